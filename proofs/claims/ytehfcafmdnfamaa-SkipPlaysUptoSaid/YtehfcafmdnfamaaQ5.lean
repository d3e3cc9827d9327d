/- Contracts of functions and plain laws, several texts of the session put together by its program. -/
import Derived.Test.YtehfcafmdnfamaaProg
import Derived.Below
import Derived.Deep.Draws
import Derived.Deep.AppendLies
import Derived.Maps.AppendAt
import Derived.OwnWalk
import Derived.Laws.BytesArg
import Derived.Laws.MakeOwn
import Derived.Laws.OwnMore
import Derived.Deep.OwnRows
import Derived.Tactics
import Derived.Lib.ConvBytes
import Derived.Laws.Slices
import Derived.WalkKit
import Derived.KernelRfl
import Derived.RowKit3
import Derived.Deep.LoopGhost
import Derived.Deep.QuietTactic
import Derived.BigQuiet
import Derived.WideLaws
import Derived.Deep.DeepCutAuto
import Derived.Deep.CutBlock
import Derived.Deep.RegionHeld3
import Derived.Laws.Rows
import Derived.Lib.AppendStr
import Derived.ArgAppend
import Derived.Laws.IdiomCopy
import Derived.OrdersHeld
import Derived.Laws.BitsLemmas
import Derived.RowKit
import Derived.Test.YtehfcafmdnfamaaWVWords
import Derived.Test.YtehfcafmdnfamaaWVLast
import Derived.Test.YtehfcafmdnfamaaWVTab
import Derived.Test.YtehfcafmdnfamaaWVFour
import Derived.Test.YtehfcafmdnfamaaWVQPut
import Derived.Test.YtehfcafmdnfamaaWVApart
import Derived.Test.YtehfcafmdnfamaaWVArr
import Derived.Test.YtehfcafmdnfamaaWVZeros
import Derived.Test.YtehfcafmdnfamaaWVFoot
import Derived.Test.YtehfcafmdnfamaaWVKept
import Derived.Test.YtehfcafmdnfamaaWVShare
import Derived.Test.YtehfcafmdnfamaaWVN
import Derived.Test.YtehfcafmdnfamaaWVFootNe
import Derived.Test.YtehfcafmdnfamaaWVAt
import Derived.Test.YtehfcafmdnfamaaWVEqStruct
import Derived.Test.YtehfcafmdnfamaaWVRepsOne
import Derived.Test.YtehfcafmdnfamaaWVInv
import Derived.Test.YtehfcafmdnfamaaWVInvWords
import Derived.Test.YtehfcafmdnfamaaWVGuard
import Derived.Test.YtehfcafmdnfamaaWVNEv
import Derived.Test.YtehfcafmdnfamaaWVMore
import Derived.Test.YtehfcafmdnfamaaQ3
import Derived.Test.YtehfcafmdnfamaaQ4
import Derived.Test.YtehfcafmdnfamaaQ0
import Derived.Test.YtehfcafmdnfamaaQ2
import Derived.Test.YtehfcafmdnfamaaRows
import Derived.Deep.Slices
import Derived.Deep.Fields
import Derived.ChangeSame
import Derived.Deep.Strs
import Derived.Lib.SmallJoins
import Derived.Test.YtehfcafmdnfamaaQ1

/- Contracts typed by hand: the document's list (moraineref08): what it tells -/
namespace Go.Proofs.Ytehfcafmdnfamaa.G
open Go.RowKit Go.Proofs.YtehfcafmdnfamaaW.PrintWords Go.Proofs.YtehfcafmdnfamaaW.PrintLast Go.Proofs.YtehfcafmdnfamaaW.PrintMore
attribute [local go_sem] max2_int min2_int max_two min_two max_three min_three max_four min_four
set_option linter.unusedVariables false
set_option linter.unusedSimpArgs false

/-! the document's list (moraineref08): what it tells -/
theorem lastOf_getD (l : List Nat) : lastOf l = if l.length = 0 then 0 else l.getD (l.length - 1) 0 := by
  unfold lastOf
  cases l with
  | nil => rfl
  | cons a l => simp [List.getLastD_eq_getLast?, List.getLast?_eq_getElem?, List.getD_eq_getElem?_getD]
section
variable {V : Type} (val : V → ByteArray) {S : SL V}
theorem split_at (hS : S.Fine) {z : Nat} (hz : z ∈ S.order) : ∃ a d, S.order = a ++ z :: d ∧ S.below (S.key z) = a := by
  obtain ⟨a, d, hp⟩ := List.append_of_mem hz
  refine ⟨a, d, hp, ?_⟩
  have hr := hS.rise
  rw [hp, List.pairwise_append, List.pairwise_cons] at hr
  unfold SL.below
  rw [hp, List.filter_append, List.filter_cons_of_neg (by rw [kl_irr]; simp)]
  rw [List.filter_eq_self.2 (fun u hu => hr.2.2 u hu z (List.mem_cons_self ..)), List.filter_eq_nil_iff.2 (fun u hu => by rw [kl_asymm (hr.2.1.1 u hu)]; simp), List.append_nil]
theorem order_last (hS : S.Fine) (k : IK) : (if 0 ≤ ((S.below k).length : Int) - 1 then ((S.order.getD (((S.below k).length : Int) - 1).toNat 0 : Nat) : Int) else 0) = ((S.before k : Nat) : Int) := by
  unfold SL.before
  rw [lastOf_getD]
  by_cases h : (S.below k).length = 0
  · rw [if_pos h, if_neg (by omega)]; rfl
  · rw [if_neg h, if_pos (by omega), show (((S.below k).length : Int) - 1).toNat = (S.below k).length - 1 by omega]
    rw [S.part hS k, List.getD_eq_getElem?_getD, List.getD_eq_getElem?_getD, List.getElem?_append_left (by omega)]
theorem below_len_le (hS : S.Fine) (hl : S.nodes.length ≤ 1048576) (k : IK) : (S.below k).length ≤ 1048576 := by
  have := below_le hS k
  have := hS.len
  omega
theorem rbefore_eq (hS : S.Fine) (hl : S.nodes.length ≤ 1048576) (m : Int) (k : IK) (n : Nat) (hn : S.nodes.length < n) : moraineref08_List_Before.f n m (nodesR val S) (ordR S) k.1 k.2.1 k.2.2 = some ((S.before k : Nat) : Int) := by
  have hb := below_len_le hS hl k
  unfold moraineref08_List_Before.f
  rw [place_eq val hS hl m k n hn, Option.bind_some, w64_small (x := ((S.below k).length : Int) - 1) (by omega) (by omega), at_eq, Option.bind_some, order_last hS]
/-- what Get tells -/
def getV (S : SL V) (k : IK) : Option V := if S.find k = 0 then none else (S.nodes[S.find k - 1]?).map fun x => x.2.1
theorem find_le (hS : S.Fine) (k : IK) (h : S.find k ≠ 0) : 1 ≤ S.find k ∧ S.find k ≤ S.nodes.length ∧ S.find k = S.seek k ∧ S.key (S.seek k) = k := by
  unfold SL.find at h ⊢
  split at h
  · rename_i hc
    rw [if_pos hc]
    have := hS.mem _ (seek_mem hS k hc.1)
    exact ⟨this.1, this.2, rfl, hc.2⟩
  · exact absurd rfl h
theorem rget_eq (hS : S.Fine) (hl : S.nodes.length ≤ 1048576) (m : Int) (k : IK) (n : Nat) (hn : S.nodes.length < n) :
    moraineref08_List_Get.f n m (nodesR val S) (ordR S) k.1 k.2.1 k.2.2 = some (match getV S k with | none => (⟨#[]⟩, false) | some v => (val v, true)) := by
  unfold moraineref08_List_Get.f getV
  rw [rfind_eq val hS hl m k n hn, Option.bind_some]
  by_cases h : S.find k = 0
  · rw [if_pos (show ((S.find k : Nat) : Int) = 0 by omega), if_pos h]
  · obtain ⟨h1, h2, _, _⟩ := find_le hS k h
    obtain ⟨x, hx, hr⟩ := nodesR_at val (S := S) h1 h2
    rw [if_neg (show ¬ ((S.find k : Nat) : Int) = 0 by omega), if_neg h, hx]
    generalize S.find k = z at *
    rw [w64_small (x := (z : Int) - 1) (by omega) (by omega), if_pos (show (0 : Int) ≤ (z : Int) - 1 by omega), nodesR_len, if_pos (show (z : Int) - 1 < (S.nodes.length : Int) by omega), hr]
    rfl
theorem rfirst_eq (m : Int) : moraineref08_List_First.f m (nodesR val S) (ordR S) = some ((S.order.headD 0 : Nat) : Int) := by
  unfold moraineref08_List_First.f
  rw [at_eq, Option.bind_some, if_pos (by decide)]
  cases S.order <;> rfl
theorem rlast_eq (hS : S.Fine) (hl : S.nodes.length ≤ 1048576) (m : Int) : moraineref08_List_Last.f m (nodesR val S) (ordR S) = some ((lastOf S.order : Nat) : Int) := by
  have hol := hS.len
  unfold moraineref08_List_Last.f
  rw [ordR_len, w64_small (x := (S.order.length : Int) - 1) (by omega) (by omega), at_eq, Option.bind_some, lastOf_getD]
  by_cases h : S.order.length = 0
  · rw [if_pos h, if_neg (by omega)]; rfl
  · rw [if_neg h, if_pos (by omega), show ((S.order.length : Int) - 1).toNat = S.order.length - 1 by omega]
/-- the node beside one -/
def besV (S : SL V) (n by_ : Int) : Int := if 1 ≤ n ∧ n ≤ (S.nodes.length : Int) then (if 0 ≤ ((S.below (S.key n.toNat)).length : Int) + by_ then ((S.order.getD (((S.below (S.key n.toNat)).length : Int) + by_).toNat 0 : Nat) : Int) else 0) else 0
theorem rbeside_eq (hS : S.Fine) (hl : S.nodes.length ≤ 1048576) (m n by_ : Int) (h1 : -1 ≤ by_) (h2 : by_ ≤ 1) (hw : wrap64 n = n) (f : Nat) (hn : S.nodes.length + 1 < f) : moraineref08_List_beside.f f m (nodesR val S) (ordR S) n by_ = some (besV S n by_) := by
  obtain ⟨f, rfl⟩ : ∃ g, f = g + 1 := ⟨f - 1, by omega⟩
  unfold moraineref08_List_beside.f besV
  by_cases c1 : n < 1
  · rw [if_pos c1, moraineref08_List_beside.j0, if_pos rfl, if_neg (by omega)]
  · rw [if_neg c1, moraineref08_List_beside.j0, nodesR_len]
    by_cases c2 : n > (S.nodes.length : Int)
    · rw [if_pos (decide_eq_true c2), if_neg (by omega)]
    · obtain ⟨z, rfl⟩ := Int.eq_ofNat_of_zero_le (show 0 ≤ n by omega)
      have hb := below_len_le hS hl (S.key z)
      obtain ⟨x, _, hr⟩ := nodesR_at val (S := S) (z := z) (by omega) (by omega)
      rw [if_neg (show ¬ decide ((z : Int) > (S.nodes.length : Int)) = true by rw [decide_eq_true_eq]; exact c2), if_pos (show (1 : Int) ≤ (z : Int) ∧ (z : Int) ≤ (S.nodes.length : Int) by omega), w64_small (x := (z : Int) - 1) (by omega) (by omega), if_pos (show (0 : Int) ≤ (z : Int) - 1 by omega), if_pos (show (z : Int) - 1 < (S.nodes.length : Int) by omega), hr]
      show (moraineref08_List_place.f f m (nodesR val S) (ordR S) (S.key z).1 (S.key z).2.1 (S.key z).2.2).bind _ = _
      rw [place_eq val hS hl m (S.key z) f (by omega), Option.bind_some, w64_small (x := ((S.below (S.key z)).length : Int) + by_) (by omega) (by omega), at_eq, Option.bind_some, Int.toNat_natCast]
theorem rnext_eq (hS : S.Fine) (hl : S.nodes.length ≤ 1048576) (m n : Int) (hw : wrap64 n = n) (f : Nat) (hn : S.nodes.length + 1 < f) : moraineref08_List_Next.f f m (nodesR val S) (ordR S) n = some (besV S n 1) := by
  unfold moraineref08_List_Next.f
  rw [rbeside_eq val hS hl m n 1 (by decide) (by decide) hw f hn, Option.bind_some]
theorem rprev_eq (hS : S.Fine) (hl : S.nodes.length ≤ 1048576) (m n : Int) (hw : wrap64 n = n) (f : Nat) (hn : S.nodes.length + 1 < f) : moraineref08_List_Prev.f f m (nodesR val S) (ordR S) n = some (besV S n (-1)) := by
  unfold moraineref08_List_Prev.f
  rw [rbeside_eq val hS hl m n (-1) (by decide) (by decide) hw f hn, Option.bind_some]
/-- beside a node that is there -/
theorem bes_next (hS : S.Fine) {n : Nat} {a d : List Nat} (h : 1 ≤ n ∧ n ≤ S.nodes.length) (ho : S.order = a ++ n :: d) (hb : S.below (S.key n) = a) : besV S (n : Int) 1 = ((d.headD 0 : Nat) : Int) := by
  unfold besV
  rw [if_pos (show (1 : Int) ≤ (n : Int) ∧ (n : Int) ≤ (S.nodes.length : Int) by omega), Int.toNat_natCast, hb, if_pos (by omega), show ((a.length : Int) + 1).toNat = a.length + 1 by omega, ho, List.getD_eq_getElem?_getD, List.getElem?_append_right (by omega)]
  rw [show a.length + 1 - a.length = 1 by omega]
  cases d <;> rfl
theorem bes_prev (hS : S.Fine) {n : Nat} {a d : List Nat} (h : 1 ≤ n ∧ n ≤ S.nodes.length) (ho : S.order = a ++ n :: d) (hb : S.below (S.key n) = a) : besV S (n : Int) (-1) = ((lastOf a : Nat) : Int) := by
  unfold besV
  rw [if_pos (show (1 : Int) ≤ (n : Int) ∧ (n : Int) ≤ (S.nodes.length : Int) by omega), Int.toNat_natCast]
  have := order_last hS (S.key n)
  unfold SL.before at this
  rw [hb] at this
  rw [hb, ← this]
  rfl
/-- what Node tells -/
def nodeV (S : SL V) (n : Int) : Option (IK × V × Nat) := if 1 ≤ n ∧ n ≤ (S.nodes.length : Int) then S.nodes[n.toNat - 1]? else none
theorem rnode_eq (m n : Int) (hl : S.nodes.length ≤ 1048576) : moraineref08_List_Node.f m (nodesR val S) (ordR S) n = some (match nodeV S n with | none => (⟨#[]⟩, 0, 0, ⟨#[]⟩, false) | some x => (x.1.1, x.1.2.1, x.1.2.2, val x.2.1, true)) := by
  unfold moraineref08_List_Node.f nodeV
  rw [nodesR_len]
  by_cases c1 : n < 1
  · rw [if_pos c1, if_neg (by omega)]
  · rw [if_neg c1]
    by_cases c2 : n > (S.nodes.length : Int)
    · rw [if_pos c2, if_neg (by omega)]
    · obtain ⟨z, rfl⟩ := Int.eq_ofNat_of_zero_le (show 0 ≤ n by omega)
      obtain ⟨x, hx, hr⟩ := nodesR_at val (S := S) (z := z) (by omega) (by omega)
      have hk : S.key z = x.1 := by unfold SL.key; rw [hx]
      rw [if_neg c2, if_pos (show (1 : Int) ≤ (z : Int) ∧ (z : Int) ≤ (S.nodes.length : Int) by omega), w64_small (x := (z : Int) - 1) (by omega) (by omega), if_pos (show (0 : Int) ≤ (z : Int) - 1 by omega), if_pos (show (z : Int) - 1 < (S.nodes.length : Int) by omega), hr, Int.toNat_natCast, hx, hk]
      rfl
theorem rheight_go (m : Int) (hl : S.nodes.length ≤ 1048576) : ∀ (n i h : Nat), i ≤ S.nodes.length → S.nodes.length - i < n →
    moraineref08_List_Height.l0 n (h : Int) (i : Int) m (nodesR val S) (ordR S) = some (((S.nodes.drop i).foldl (fun h x => max h x.2.2) h : Nat) : Int)
  | 0, _, _, _, h => absurd h (Nat.not_lt_zero _)
  | n + 1, i, h, hi, hn => by
    unfold moraineref08_List_Height.l0
    rw [nodesR_len]
    by_cases hlt : i < S.nodes.length
    · have hr : (rd_T45 (nodesR val S) (i : Int)).f2 = ((S.nodes[i].2.2 : Nat) : Int) := by
        unfold rd_T45 nodesR
        rw [Int.toNat_natCast, List.getD_eq_getElem?_getD, List.getElem?_map, List.getElem?_eq_getElem hlt]
        rfl
      rw [if_pos (show (i : Int) < (S.nodes.length : Int) by omega), if_pos (show (0 : Int) ≤ (i : Int) by omega), hr, List.drop_eq_getElem_cons hlt, List.foldl_cons, w64_small (x := (i : Int) + 1) (by omega) (by omega)]
      rw [show mx (h : Int) ((S.nodes[i].2.2 : Nat) : Int) = ((max h S.nodes[i].2.2 : Nat) : Int) by unfold mx; split <;> omega, show (i : Int) + 1 = ((i + 1 : Nat) : Int) by omega]
      exact rheight_go m hl n (i + 1) _ (by omega) (by omega)
    · rw [if_neg (show ¬ (i : Int) < (S.nodes.length : Int) by omega), List.drop_of_length_le (by omega)]
      rfl
theorem rheight_eq (m : Int) (hl : S.nodes.length ≤ 1048576) (n : Nat) (hn : S.nodes.length < n) : moraineref08_List_Height.f n m (nodesR val S) (ordR S) = some ((S.height : Nat) : Int) := by
  unfold moraineref08_List_Height.f
  have := rheight_go val m hl n 0 0 (Nat.zero_le _) (by omega)
  rw [List.drop_zero] at this
  exact this
theorem rlinks_go (hS : S.Fine) (hl : S.nodes.length ≤ 1048576) (m : Int) (j : Nat) : ∀ (n i : Nat), i ≤ S.order.length → 2 * (S.order.length - i) + 1 < n →
    moraineref08_List_Links.l0 n (j : Int) (lvls S j (S.order.take i)) (i : Int) m (nodesR val S) (ordR S) = some (lvls S j S.order)
  | 0, _, _, h => absurd h (Nat.not_lt_zero _)
  | 1, _, _, h => absurd h (by omega)
  | n + 2, i, hi, hn => by
    have hol := hS.len
    rw [moraineref08_List_Links.l0, ordR_len]
    by_cases hlt : i < S.order.length
    · have hz := hS.mem _ (List.getElem_mem hlt)
      obtain ⟨x, _, hx⟩ := nodesR_at val (S := S) hz.1 hz.2
      have htk : S.order.take (i + 1) = S.order.take i ++ [S.order[i]] := by rw [List.take_add_one, List.getElem?_eq_getElem hlt]; rfl
      have hll : (lvls S j (S.order.take i)).length < 17592186044416 := by
        have h1 := lvls_len S j (S.order.take i)
        rw [List.length_take] at h1
        omega
      have ih := rlinks_go hS hl m j n (i + 1) (by omega) (by omega)
      rw [htk] at ih
      rw [if_pos (show (i : Int) < (S.order.length : Int) by omega), moraineref08_List_Links.j1, if_pos (decide_eq_true (show (j : Int) ≥ 0 by omega)), if_pos (show (0 : Int) ≤ (i : Int) by omega), ordR_len, if_pos (show (i : Int) < (S.order.length : Int) by omega), ordR_at hlt]
      generalize S.order[i] = z at *
      rw [w64_small (x := (z : Int) - 1) (by omega) (by omega), if_pos (show (0 : Int) ≤ (z : Int) - 1 by omega), nodesR_len, if_pos (show (z : Int) - 1 < (S.nodes.length : Int) by omega), hx, w64_small (x := (i : Int) + 1) (by omega) (by omega), show (i : Int) + 1 = ((i + 1 : Nat) : Int) by omega]
      by_cases hh : j < S.ht z
      · rw [if_pos (show ((S.ht z : Nat) : Int) > (j : Int) by omega), if_pos hll]
        rw [show lvls S j (S.order.take i ++ [z]) = lvls S j (S.order.take i) ++ [(z : Int)] by unfold lvls; rw [List.filter_append, List.map_append, List.filter_cons_of_pos (by simpa using hh)]; rfl] at ih
        exact ih
      · rw [if_neg (show ¬ ((S.ht z : Nat) : Int) > (j : Int) by omega)]
        rw [show lvls S j (S.order.take i ++ [z]) = lvls S j (S.order.take i) by unfold lvls; rw [List.filter_append, List.filter_cons_of_neg (by simpa using hh), List.filter_nil, List.append_nil]] at ih
        exact ih
    · rw [if_neg (show ¬ (i : Int) < (S.order.length : Int) by omega), moraineref08_List_Links.j1, if_neg (by decide), List.take_of_length_le (by omega)]
theorem rlinks_eq (hS : S.Fine) (hl : S.nodes.length ≤ 1048576) (m lv : Int) (n : Nat) (hn : 2 * S.nodes.length + 1 < n) : moraineref08_List_Links.f n m (nodesR val S) (ordR S) lv = some (lvl S lv) := by
  have hol := hS.len
  unfold moraineref08_List_Links.f
  by_cases h : lv < 0
  · obtain ⟨n, rfl⟩ : ∃ g, n = g + 2 := ⟨n - 2, by omega⟩
    rw [lvl_neg S h, moraineref08_List_Links.l0]
    by_cases h2 : (0 : Int) < ((ordR S).length : Int)
    · rw [if_pos h2, moraineref08_List_Links.j1, if_neg (by rw [decide_eq_true_eq]; omega)]
    · rw [if_neg h2, moraineref08_List_Links.j1, if_neg (by decide)]
  · obtain ⟨j, rfl⟩ := Int.eq_ofNat_of_zero_le (show 0 ≤ lv by omega)
    rw [lvl_nat]
    exact rlinks_go val hS hl m j n 0 (Nat.zero_le _) (by omega)
theorem rtrail_in (hS : S.Fine) (hl : S.nodes.length ≤ 1048576) (m : Int) (k : IK) (j : Nat) (acc : List Int) (ha : acc.length < 4096) : ∀ (n i : Nat), i ≤ (S.below k).length → S.nodes.length + ((S.below k).length - i) + 1 < n →
    moraineref08_List_Trail.l1 n acc (j : Int) ((tr S.ht j ((S.below k).take i) : Nat) : Int) (i : Int) m (nodesR val S) (ordR S) k.1 k.2.1 k.2.2 = moraineref08_List_Trail.l0 (n - ((S.below k).length - i) - 1) (acc ++ [((tr S.ht j (S.below k) : Nat) : Int)]) (wrap64 ((j : Int) - 1)) m (nodesR val S) (ordR S) k.1 k.2.1 k.2.2
  | 0, _, _, h => absurd h (Nat.not_lt_zero _)
  | n + 1, i, hi, hn => by
    have hol := hS.len
    have hble := below_le hS k
    rw [moraineref08_List_Trail.l1, place_eq val hS hl m k n (by omega), Option.bind_some]
    by_cases hlt : i < (S.below k).length
    · have hio : i < S.order.length := by omega
      have he : S.order[i] = (S.below k)[i] := by
        have e : S.order[i]? = (S.below k ++ S.rest k)[i]? := by rw [← S.part hS k]
        rw [List.getElem?_eq_getElem hio, List.getElem?_append_left hlt, List.getElem?_eq_getElem hlt] at e
        exact Option.some.inj e
      have hz := hS.mem _ (List.getElem_mem hio)
      obtain ⟨x, _, hx⟩ := nodesR_at val (S := S) hz.1 hz.2
      have htk : (S.below k).take (i + 1) = (S.below k).take i ++ [S.order[i]] := by rw [he, List.take_add_one, List.getElem?_eq_getElem hlt]; rfl
      have ih := rtrail_in hS hl m k j acc ha n (i + 1) (by omega) (by omega)
      rw [htk] at ih
      rw [if_pos (show (i : Int) < ((S.below k).length : Int) by omega), if_pos (show (0 : Int) ≤ (i : Int) by omega), ordR_len, if_pos (show (i : Int) < (S.order.length : Int) by omega), ordR_at hio]
      generalize S.order[i] = z at *
      rw [w64_small (x := (z : Int) - 1) (by omega) (by omega), if_pos (show (0 : Int) ≤ (z : Int) - 1 by omega), nodesR_len, if_pos (show (z : Int) - 1 < (S.nodes.length : Int) by omega), hx, w64_small (x := (i : Int) + 1) (by omega) (by omega), show (i : Int) + 1 = ((i + 1 : Nat) : Int) by omega]
      rw [show n + 1 - ((S.below k).length - i) - 1 = n - ((S.below k).length - (i + 1)) - 1 by omega]
      by_cases hh : j < S.ht z
      · rw [if_pos (show ((S.ht z : Nat) : Int) > (j : Int) by omega)]
        rw [show tr S.ht j ((S.below k).take i ++ [z]) = z by unfold tr; rw [List.filter_append, List.filter_cons_of_pos (by simpa using hh), List.filter_nil]; exact lastOf_snoc _ _] at ih
        exact ih
      · rw [if_neg (show ¬ ((S.ht z : Nat) : Int) > (j : Int) by omega)]
        rw [show tr S.ht j ((S.below k).take i ++ [z]) = tr S.ht j ((S.below k).take i) by unfold tr; rw [List.filter_append, List.filter_cons_of_neg (by simpa using hh), List.filter_nil, List.append_nil]] at ih
        exact ih
    · rw [if_neg (show ¬ (i : Int) < ((S.below k).length : Int) by omega), if_pos (show acc.length < 17592186044416 by omega), List.take_of_length_le (by omega), show n + 1 - ((S.below k).length - i) - 1 = n by omega]
theorem rtrail_go (hS : S.Fine) (hl : S.nodes.length ≤ 1048576) (m : Int) (k : IK) (H : Nat) (hH : H ≤ 12) : ∀ (j n : Nat), j ≤ H → (j + 1) * (S.nodes.length + 3) + S.nodes.length < n →
    moraineref08_List_Trail.l0 n (trt S k j (H - j)) ((j : Int) - 1) m (nodesR val S) (ordR S) k.1 k.2.1 k.2.2 = some (trt S k 0 H)
  | 0, n, _, hn => by
    obtain ⟨n, rfl⟩ : ∃ g, n = g + 1 := ⟨n - 1, by omega⟩
    rw [moraineref08_List_Trail.l0, if_neg (by decide)]
    rfl
  | j + 1, n, hj, hn => by
    have hble := below_len_le hS hl k
    have hbl2 : (S.below k).length ≤ S.nodes.length := by rw [← hS.len]; exact below_le hS k
    obtain ⟨n, rfl⟩ : ∃ g, n = g + 1 := ⟨n - 1, by omega⟩
    have hm2 : (j + 1 + 1) * (S.nodes.length + 3) = (j + 1) * (S.nodes.length + 3) + (S.nodes.length + 3) := by rw [Nat.add_mul, Nat.one_mul]
    rw [moraineref08_List_Trail.l0, show (((j + 1 : Nat) : Int) - 1) = (j : Int) by omega, if_pos (show (j : Int) ≥ 0 by omega)]
    have h := rtrail_in val hS hl m k j (trt S k (j + 1) (H - (j + 1))) (by rw [trt_len]; omega) n 0 (Nat.zero_le _) (by omega)
    rw [List.take_zero, show ((tr S.ht j ([] : List Nat) : Nat) : Int) = 0 from rfl, show ((0 : Nat) : Int) = 0 from rfl] at h
    rw [h, w64_small (x := (j : Int) - 1) (by omega) (by omega)]
    rw [show trt S k (j + 1) (H - (j + 1)) ++ [((tr S.ht j (S.below k) : Nat) : Int)] = trt S k j (H - j) by rw [show H - j = (H - (j + 1)) + 1 by omega, trt_step]]
    exact rtrail_go hS hl m k H hH j _ (by omega) (by omega)
theorem rtrail_eq (hS : S.Fine) (hl : S.nodes.length ≤ 1048576) (m : Int) (k : IK) (n : Nat) (hn : 16777216 ≤ n) : moraineref08_List_Trail.f n m (nodesR val S) (ordR S) k.1 k.2.1 k.2.2 = some (trt S k 0 S.height) := by
  have hH := SL.height_le hS
  unfold moraineref08_List_Trail.f
  rw [rheight_eq val m hl n (by omega), Option.bind_some, w64_small (x := (S.height : Int) - 1) (by omega) (by omega)]
  have hk : (S.height + 1) * (S.nodes.length + 3) ≤ 13 * 1048579 := Nat.mul_le_mul (by omega) (by omega)
  have := rtrail_go val hS hl m k S.height hH S.height n (Nat.le_refl _) (by omega)
  rw [Nat.sub_self] at this
  exact this
end

end Go.Proofs.Ytehfcafmdnfamaa.G

/- Printed by the session's program over the kit's print, out of the translation: functions as plain Lean functions, and the proofs that the calls come to them. -/
namespace Go.Proofs.Ytehfcafmdnfamaa.G
open Go.RowKit Go.Proofs.YtehfcafmdnfamaaW.PrintWords Go.Proofs.YtehfcafmdnfamaaW.PrintLast Go.Proofs.YtehfcafmdnfamaaW.PrintMore
attribute [local go_sem] max2_int min2_int max_two min_two max_three min_three max_four min_four   -- for this text's walks alone
set_option linter.unusedVariables false
set_option linter.unusedSimpArgs false

/-! ### morainelaw08_ints: function 20 -/
def morainelaw08_ints.l0 : Nat → List Int → List Int → Int → Option (Bool)
  | 0, _, _, _ => none
  | k + 1, x0, x1, x5 => if x5 < (x0.length : Int) then (if 0 ≤ x5 then (if x5 < (x1.length : Int) then (if (rd x0 x5) = (rd x1 x5) then (morainelaw08_ints.l0 k x0 x1 (wrap64 (x5 + 1))) else (some false)) else (none)) else (none)) else (some true)
def morainelaw08_ints.f (k : Nat) (l0 : List Int) (l1 : List Int) : Option (Bool) := if (l0.length : Int) = (l1.length : Int) then (morainelaw08_ints.l0 k l0 l1 0) else (some false)
theorem morainelaw08_ints.mono_l : ∀ k, (∀ y0 y1 y2, LeO (morainelaw08_ints.l0 k y0 y1 y2) (morainelaw08_ints.l0 (k + 1) y0 y1 y2))
  | 0 => fun _ _ _ r h => by simp [morainelaw08_ints.l0] at h
  | k + 1 => by
    have ih0 := morainelaw08_ints.mono_l k
    · intro y0 y1 y2
      unfold morainelaw08_ints.l0
      repeat' first
      | (with_reducible exact ih0 _ _ _)
      | (with_reducible exact LeO.refl _)
      | (with_reducible exact LeO.none _)
      | (with_reducible refine LeO.ite ?_ ?_)
      | (with_reducible refine LeO.bind ?_ (fun _ => ?_))
      | exact ih0 _ _ _
      | exact LeO.none _
      | refine LeO.ite ?_ ?_
      | refine LeO.bind ?_ (fun _ => ?_)
theorem morainelaw08_ints.mono : ∀ a0 a1 k, LeO (morainelaw08_ints.f k a0 a1) (morainelaw08_ints.f (k + 1) a0 a1) := by
  intro a0 a1 k
  have ih0 := morainelaw08_ints.mono_l k
  unfold morainelaw08_ints.f
  repeat' first
      | (with_reducible exact ih0 _ _ _)
      | (with_reducible exact LeO.refl _)
      | (with_reducible exact LeO.none _)
      | (with_reducible refine LeO.ite ?_ ?_)
      | (with_reducible refine LeO.bind ?_ (fun _ => ?_))
      | exact ih0 _ _ _
      | exact LeO.none _
      | refine LeO.ite ?_ ?_
      | refine LeO.bind ?_ (fun _ => ?_)
set_option maxHeartbeats 8000000 in
set_option maxRecDepth 100000 in
theorem morainelaw08_ints.calls (k : Nat) (A0 : Option Addr) (c0 : Nat) (l0 : List Int) (A1 : Option Addr) (c1 : Nat) (l1 : List Int) (r : Bool) (w : World) (hr0 : Kd.C (Kd.int .i64) w A0 l0.length l0) (hc0 : l0.length ≤ c0) (hr1 : Kd.C (Kd.int .i64) w A1 l1.length l1) (hc1 : l1.length ≤ c1) (h : morainelaw08_ints.f k l0 l1 = some r) :
    Calls Try.prog 20 #[.slice A0 l0.length c0, .slice A1 l1.length c1] w fun e w' => e = .returned (.bool r) ∧ Drawn0 w w' := by
  have HR0 := Aside0.mk hr0
  have HC0 := Aside0.mk hc0
  clear hr0 hc0
  have HR1 := Aside0.mk hr1
  have HC1 := Aside0.mk hc1
  clear hr1 hc1
  have H : (if (l0.length : Int) = (l1.length : Int) then (morainelaw08_ints.l0 k l0 l1 0) else (some false)) = some r := h
  clear h
  by_cases c3 : (l0.length : Int) = (l1.length : Int)
  · rw [if_pos c3] at H
    have c3b0 : ((l0.length : Int) == (l1.length : Int)) = true := beq_iff_eq.mpr c3
    have c3b1 : ((l0.length : Int) != (l1.length : Int)) = false := bne_eq_false_iff_eq.mpr c3
    have c3b2 : (l0.length == l1.length) = true := by first | simpa using c3 | (simp at c3 ⊢; omega)
    clear c3
    have H' := Aside0.mk H
    clear H
    go_enter Try.func20, Try.ntmps20
    go_wp2
    repeat (go_quiet (fail); try go_wp2)
    go_loopg [5] k (fun kq v5 w' => ∃ (x5_1 : Int), v5 = .int .i64 x5_1 ∧ Aside0 (morainelaw08_ints.l0 kq l0 l1 x5_1 = some r) ∧ Aside0 (kq ≤ k) ∧ Drawn0 w w')
    case atStart => exact ⟨(0), (by first | rfl | (simp; done) | (simp [*]; done)), H', ⟨Nat.le_refl _⟩, by repeat (first | exact Drawn0.refl _ | apply Drawn0.step)⟩
    case round =>
      clear H'
      try clear c1
      try clear c2
      try clear p2
      try clear c3
      try clear c3b0
      try clear c3b1
      try clear c3b2
      obtain ⟨x5_1, rfl, HA, HK1, ⟨m1, rfl⟩⟩ := hrel
      cases gk with
      | zero => exact absurd HA.out (by simp [morainelaw08_ints.l0])
      | succ k1 =>
        have H := HA.out
        clear HA
        simp only [morainelaw08_ints.l0] at H
        by_cases c4 : x5_1 < (l0.length : Int)
        · rw [if_pos c4] at H
          have c4b0 : decide (x5_1 < (l0.length : Int)) = true := decide_eq_true c4
          clear c4
          by_cases c5 : 0 ≤ x5_1
          · rw [if_pos c5] at H
            have c5b0 : decide (0 ≤ x5_1) = true := decide_eq_true c5
            clear c5
            by_cases c6 : x5_1 < (l1.length : Int)
            · rw [if_pos c6] at H
              have c6b0 : decide (x5_1 < (l1.length : Int)) = true := decide_eq_true c6
              clear c6
              by_cases c7 : (rd l0 x5_1) = (rd l1 x5_1)
              · rw [if_pos c7] at H
                have c7b0 : ((rd l0 x5_1) == (rd l1 x5_1)) = true := beq_iff_eq.mpr c7
                have c7b1 : ((rd l0 x5_1) != (rd l1 x5_1)) = false := bne_eq_false_iff_eq.mpr c7
                clear c7
                have H' := Aside0.mk H
                clear H
                have p117 : 0 ≤ (x5_1 : Int) := of_decide_eq_true (by first | (with_reducible assumption) | assumption)
                have q117 : x5_1 < (l0.length : Int) := of_decide_eq_true (by first | (with_reducible assumption) | assumption)
                obtain ⟨ad117, e117, hx117_0⟩ := Kd.at_int HR0.out x5_1 p117 q117
                cases e117
                replace p117 := eq_true p117
                replace q117 := eq_true q117
                have p118 : 0 ≤ (x5_1 : Int) := of_decide_eq_true (by first | (with_reducible assumption) | assumption)
                have q118 : x5_1 < (l1.length : Int) := of_decide_eq_true (by first | (with_reducible assumption) | assumption)
                obtain ⟨ad118, e118, hx118_0⟩ := Kd.at_int HR1.out x5_1 p118 q118
                cases e118
                replace p118 := eq_true p118
                replace q118 := eq_true q118
                go_wp2
                repeat (go_quiet (fail); try go_wp2)
                go_roundg k1
                case measure => have := HK1.out; omega
                case rel => exact ⟨(wrap64 (x5_1 + 1)), (by first | rfl | (simp; done) | (simp [*]; done)), H', ⟨by have := HK1.out; omega⟩, by repeat (first | exact Drawn0.refl _ | apply Drawn0.step)⟩
              · rw [if_neg c7] at H
                have c7b0 : ((rd l0 x5_1) == (rd l1 x5_1)) = false := beq_eq_false_iff_ne.mpr c7
                have c7b1 : ((rd l0 x5_1) != (rd l1 x5_1)) = true := bne_iff_ne.mpr c7
                obtain rfl := Option.some.inj H
                have p117 : 0 ≤ (x5_1 : Int) := of_decide_eq_true (by first | (with_reducible assumption) | assumption)
                have q117 : x5_1 < (l0.length : Int) := of_decide_eq_true (by first | (with_reducible assumption) | assumption)
                obtain ⟨ad117, e117, hx117_0⟩ := Kd.at_int HR0.out x5_1 p117 q117
                cases e117
                replace p117 := eq_true p117
                replace q117 := eq_true q117
                have p118 : 0 ≤ (x5_1 : Int) := of_decide_eq_true (by first | (with_reducible assumption) | assumption)
                have q118 : x5_1 < (l1.length : Int) := of_decide_eq_true (by first | (with_reducible assumption) | assumption)
                obtain ⟨ad118, e118, hx118_0⟩ := Kd.at_int HR1.out x5_1 p118 q118
                cases e118
                replace p118 := eq_true p118
                replace q118 := eq_true q118
                go_wp2
                repeat (go_quiet (fail); try go_wp2)
                go_ret
                exact ⟨by first | rfl | (simp; done) | (simp [*]; done), by repeat (first | exact Drawn0.refl _ | apply Drawn0.step)⟩
            · rw [if_neg c6] at H
              exact absurd H (by simp)
          · rw [if_neg c5] at H
            exact absurd H (by simp)
        · rw [if_neg c4] at H
          have c4b0 : decide (x5_1 < (l0.length : Int)) = false := decide_eq_false c4
          clear c4
          obtain rfl := Option.some.inj H
          go_wp2
          repeat (go_quiet (fail); try go_wp2)
          go_ret
          exact ⟨by first | rfl | (simp; done) | (simp [*]; done), by repeat (first | exact Drawn0.refl _ | apply Drawn0.step)⟩
  · rw [if_neg c3] at H
    have c3b0 : ((l0.length : Int) == (l1.length : Int)) = false := beq_eq_false_iff_ne.mpr c3
    have c3b1 : ((l0.length : Int) != (l1.length : Int)) = true := bne_iff_ne.mpr c3
    have c3b2 : (l0.length == l1.length) = false := by first | simpa using c3 | (simp at c3 ⊢; omega)
    obtain rfl := Option.some.inj H
    go_enter Try.func20, Try.ntmps20
    go_wp2
    repeat (go_quiet (fail); try go_wp2)
    go_ret
    exact ⟨by first | rfl | (simp; done) | (simp [*]; done), by repeat (first | exact Drawn0.refl _ | apply Drawn0.step)⟩

end Go.Proofs.Ytehfcafmdnfamaa.G

/- Contracts typed by hand: a skiplist of texts: what its methods tell, in one form each -/
namespace Go.Proofs.Ytehfcafmdnfamaa.G
open Go.RowKit Go.Proofs.YtehfcafmdnfamaaW.PrintWords Go.Proofs.YtehfcafmdnfamaaW.PrintLast Go.Proofs.YtehfcafmdnfamaaW.PrintMore
attribute [local go_sem] max2_int min2_int max_two min_two max_three min_three max_four min_four
set_option linter.unusedVariables false
set_option linter.unusedSimpArgs false

/-! a skiplist of texts: what its methods tell, in one form each -/
namespace St
def gv (S : SL ByteArray) (k : IK) : ByteArray × Bool := match getV S k with | none => (⟨#[]⟩, false) | some v => (v, true)
def nv (S : SL ByteArray) (n : Int) : ByteArray × Int × Int × ByteArray × Bool := match nodeV S n with | none => (⟨#[]⟩, 0, 0, ⟨#[]⟩, false) | some x => (x.1.1, x.1.2.1, x.1.2.2, x.2.1, true)
theorem ask_get (g base most : Nat) (S : SL ByteArray) (k : IK) (w : World) (h : SkAt w g base S most) :
    Calls Try.prog 52 #[.pointer (some ⟨g, 0, none⟩), .agg #[.string k.1, .int .u64 k.2.1, .int .i64 k.2.2]] w fun e w' => e = .returned (.tuple #[.string (gv S k).1, .bool (gv S k).2]) ∧ Below w.heap.size w w' := by
  have hf := h.fine
  by_cases hz : S.seek k = 0
  · have hfi : S.find k = 0 := by unfold SL.find; rw [if_neg (fun e => e.1 hz)]
    have hg : gv S k = (⟨#[]⟩, false) := by unfold gv getV; rw [hfi, if_pos rfl]
    rw [hg]
    exact sk_get_0 g base most S k w h hz
  · have hm := hf.1.mem _ (seek_mem hf.1 k hz)
    have hl : S.seek k - 1 < S.nodes.length := by omega
    have hx := List.getElem?_eq_getElem hl
    have hkey : S.key (S.seek k) = S.nodes[S.seek k - 1].1 := by unfold SL.key; rw [hx]
    by_cases hk : S.nodes[S.seek k - 1].1 = k
    · have hfi : S.find k = S.seek k := by unfold SL.find; rw [if_pos ⟨hz, hkey.trans hk⟩]
      have hg : gv S k = (S.nodes[S.seek k - 1].2.1, true) := by unfold gv getV; rw [hfi, if_neg hz, hx]; rfl
      rw [hg]
      exact sk_get g base most S k _ w h hm.1 hx hk
    · have hfi : S.find k = 0 := by unfold SL.find; rw [if_neg (fun e => hk (hkey.symm.trans e.2))]
      have hg : gv S k = (⟨#[]⟩, false) := by unfold gv getV; rw [hfi, if_pos rfl]
      rw [hg]
      exact sk_get_ne g base most S k _ w h hm.1 hx hk
set_option maxHeartbeats 2000000 in
theorem sk_Next_none (g base most : Nat) (S : SL ByteArray) (n : Int) (w : World) (h : SkAt w g base S most) (hn : ¬ (1 ≤ n ∧ n ≤ (S.nodes.length : Int))) :
    Calls Try.prog 58 #[.pointer (some ⟨g, 0, none⟩), .int .i64 n] w fun e w' => e = .returned (.int .i64 0) ∧ w = w' := by
  have hd : decide (1 ≤ n ∧ n ≤ (S.nodes.length : Int)) = false := decide_eq_false hn
  have HH := Aside0.mk (sk_has g base most S n w h)
  rw [hd] at HH
  clear h hd hn
  go_enter Try.func58, Try.ntmps58
  go_wp2_with fail
  (with_reducible refine HH.out.mono ?_)
  rintro e w1 ⟨rfl, rfl⟩
  go_wp2
  go_ret
  exact ⟨rfl, rfl⟩
set_option maxHeartbeats 2000000 in
theorem sk_Prev_none (g base most : Nat) (S : SL ByteArray) (n : Int) (w : World) (h : SkAt w g base S most) (hn : ¬ (1 ≤ n ∧ n ≤ (S.nodes.length : Int))) :
    Calls Try.prog 60 #[.pointer (some ⟨g, 0, none⟩), .int .i64 n] w fun e w' => e = .returned (.int .i64 0) ∧ w = w' := by
  have hd : decide (1 ≤ n ∧ n ≤ (S.nodes.length : Int)) = false := decide_eq_false hn
  have HH := Aside0.mk (sk_has g base most S n w h)
  rw [hd] at HH
  clear h hd hn
  go_enter Try.func60, Try.ntmps60
  go_wp2_with fail
  (with_reducible refine HH.out.mono ?_)
  rintro e w1 ⟨rfl, rfl⟩
  go_wp2
  go_ret
  exact ⟨rfl, rfl⟩
theorem ask_next (g base most : Nat) (S : SL ByteArray) (n : Int) (w : World) (h : SkAt w g base S most) :
    Calls Try.prog 58 #[.pointer (some ⟨g, 0, none⟩), .int .i64 n] w fun e w' => e = .returned (.int .i64 (besV S n 1)) ∧ Below w.heap.size w w' := by
  have hf := h.fine
  by_cases hn : 1 ≤ n ∧ n ≤ (S.nodes.length : Int)
  · obtain ⟨z, rfl⟩ := Int.eq_ofNat_of_zero_le (show 0 ≤ n by omega)
    obtain ⟨a, d, ho, hb⟩ := split_at hf.1 (hf.1.all z (by omega) (by omega))
    rw [bes_next hf.1 ⟨by omega, by omega⟩ ho hb]
    exact (sk_next g base most S a d z w h ho).mono fun e w' ⟨h1, h2⟩ => ⟨h1, by rw [← h2]; exact Below.refl _ _⟩
  · have : besV S n 1 = 0 := by unfold besV; rw [if_neg hn]
    rw [this]
    exact (sk_Next_none g base most S n w h hn).mono fun e w' ⟨h1, h2⟩ => ⟨h1, by rw [← h2]; exact Below.refl _ _⟩
theorem ask_prev (g base most : Nat) (S : SL ByteArray) (n : Int) (w : World) (h : SkAt w g base S most) :
    Calls Try.prog 60 #[.pointer (some ⟨g, 0, none⟩), .int .i64 n] w fun e w' => e = .returned (.int .i64 (besV S n (-1))) ∧ Below w.heap.size w w' := by
  have hf := h.fine
  by_cases hn : 1 ≤ n ∧ n ≤ (S.nodes.length : Int)
  · obtain ⟨z, rfl⟩ := Int.eq_ofNat_of_zero_le (show 0 ≤ n by omega)
    obtain ⟨a, d, ho, hb⟩ := split_at hf.1 (hf.1.all z (by omega) (by omega))
    rw [bes_prev hf.1 ⟨by omega, by omega⟩ ho hb]
    exact (sk_prev g base most S a d z w h ho).mono fun e w' ⟨h1, h2⟩ => ⟨h1, by rw [← h2]; exact Below.refl _ _⟩
  · have : besV S n (-1) = 0 := by unfold besV; rw [if_neg hn]
    rw [this]
    exact (sk_Prev_none g base most S n w h hn).mono fun e w' ⟨h1, h2⟩ => ⟨h1, by rw [← h2]; exact Below.refl _ _⟩
theorem ask_node (g base most : Nat) (S : SL ByteArray) (n : Int) (w : World) (h : SkAt w g base S most) :
    Calls Try.prog 62 #[.pointer (some ⟨g, 0, none⟩), .int .i64 n] w fun e w' => e = .returned (.tuple #[.agg #[.string (nv S n).1, .int .u64 (nv S n).2.1, .int .i64 (nv S n).2.2.1], .string (nv S n).2.2.2.1, .bool (nv S n).2.2.2.2]) ∧ Below w.heap.size w w' := by
  by_cases hn : 1 ≤ n ∧ n ≤ (S.nodes.length : Int)
  · obtain ⟨z, rfl⟩ := Int.eq_ofNat_of_zero_le (show 0 ≤ n by omega)
    have hl : z - 1 < S.nodes.length := by omega
    have hx := List.getElem?_eq_getElem hl
    have hv : nv S (z : Int) = (S.nodes[z - 1].1.1, S.nodes[z - 1].1.2.1, S.nodes[z - 1].1.2.2, S.nodes[z - 1].2.1, true) := by unfold nv nodeV; rw [if_pos hn, Int.toNat_natCast, hx]
    rw [hv]
    exact sk_node g base most S z _ w h (by omega) hx
  · have hv : nv S n = (⟨#[]⟩, 0, 0, ⟨#[]⟩, false) := by unfold nv nodeV; rw [if_neg hn]
    rw [hv]
    exact sk_node_none g base most S n w h hn
theorem ask_first (g base most : Nat) (S : SL ByteArray) (w : World) (h : SkAt w g base S most) :
    Calls Try.prog 68 #[.pointer (some ⟨g, 0, none⟩)] w fun e w' => e = .returned (.int .i64 ((S.order.headD 0 : Nat) : Int)) ∧ Below w.heap.size w w' :=
  (sk_first g base most S w h).mono fun e w' ⟨h1, h2⟩ => ⟨h1, by rw [← h2]; exact Below.refl _ _⟩
theorem ask_last (g base most : Nat) (S : SL ByteArray) (w : World) (h : SkAt w g base S most) :
    Calls Try.prog 70 #[.pointer (some ⟨g, 0, none⟩)] w fun e w' => e = .returned (.int .i64 ((lastOf S.order : Nat) : Int)) ∧ Below w.heap.size w w' :=
  (sk_last g base most S w h).mono fun e w' ⟨h1, h2⟩ => ⟨h1, by rw [← h2]; exact Below.refl _ _⟩
theorem ask_len (g base most : Nat) (S : SL ByteArray) (w : World) (h : SkAt w g base S most) :
    Calls Try.prog 37 #[.pointer (some ⟨g, 0, none⟩)] w fun e w' => e = .returned (.int .i64 ((S.nodes.length : Nat) : Int)) ∧ Below w.heap.size w w' :=
  (sk_len g base most S w h).mono fun e w' ⟨h1, h2⟩ => ⟨h1, by rw [← h2]; exact Below.refl _ _⟩
theorem ask_height (g base most : Nat) (S : SL ByteArray) (w : World) (h : SkAt w g base S most) :
    Calls Try.prog 72 #[.pointer (some ⟨g, 0, none⟩)] w fun e w' => e = .returned (.int .i64 ((S.height : Nat) : Int)) ∧ Below w.heap.size w w' :=
  (sk_height g base most S w h).mono fun e w' ⟨h1, h2⟩ => ⟨h1, by rw [← h2]; exact Below.refl _ _⟩
theorem ints_same0 (l : List Int) (hl : l.length ≤ 1099511627776) : ∀ d i, i + d = l.length → morainelaw08_ints.l0 (d + 1) l l (i : Int) = some true
  | 0, i, h => by
    rw [morainelaw08_ints.l0, if_neg (by omega)]
  | d + 1, i, h => by
    have e : wrap64 ((i : Int) + 1) = ((i + 1 : Nat) : Int) := by unfold wrap64; omega
    rw [morainelaw08_ints.l0, if_pos (by omega), if_pos (by omega), if_pos (by omega), if_pos rfl, e]
    exact ints_same0 l hl d (i + 1) (by omega)
theorem ints_same (l : List Int) (hl : l.length ≤ 1099511627776) : morainelaw08_ints.f (l.length + 1) l l = some true := by
  unfold morainelaw08_ints.f
  rw [if_pos rfl]
  exact ints_same0 l hl l.length 0 (by omega)
theorem ints_rows {w : World} {A B : Option Addr} {c d : Nat} {n m : Nat} {l : List Int} (h1 : Kd.C (Kd.int .i64) w A l.length l) (h2 : Kd.C (Kd.int .i64) w B l.length l) (hc : l.length ≤ c) (hd : l.length ≤ d) (hl : l.length ≤ 1099511627776) (hn : n = l.length) (hm : m = l.length) :
    Calls Try.prog 20 #[.slice A n c, .slice B m d] w fun e w' => e = .returned (.bool true) ∧ Below w.heap.size w w' := by
  subst hn hm
  exact (morainelaw08_ints.calls (l.length + 1) A c l B d l true w h1 hc h2 hd (ints_same l hl)).mono fun e w' ⟨h, hd⟩ => ⟨h, hd.below⟩
end St

end Go.Proofs.Ytehfcafmdnfamaa.G

/- Contracts typed by hand: an argument that can be read is of its kind: from the form's reading to the words of the walks -/
namespace Go.Proofs.Ytehfcafmdnfamaa.G
open Go.RowKit Go.Proofs.YtehfcafmdnfamaaW.PrintWords Go.Proofs.YtehfcafmdnfamaaW.PrintLast Go.Proofs.YtehfcafmdnfamaaW.PrintMore
attribute [local go_sem] max2_int min2_int max_two min_two max_three min_three max_four min_four
set_option linter.unusedVariables false
set_option linter.unusedSimpArgs false

/-! an argument that can be read is of its kind: from the form's reading to the words of the walks -/
open Go.ChangeShapes Go.WideShapes Go.Deep
structure Opens (P : Program) (t : TypeId) {α : Type} (d : Kd α) (good : α → Prop) (bulk : α → Nat) : Prop where
  sz : P.cellsOf t = d.sz
  one : ∀ x, 1 ≤ bulk x
  go : ∀ {H : Type} {enc : TypeId × Value → H} {w : World} {base : Nat} {spare : Nat → Bool} {held : Bool} {fuel : Nat} {cs : List Value} {x : DataW H × List MemPlace}, DataW.trod enc P w base spare held fuel t cs = some x → ∃ a : α, d.K w a cs ∧ good a ∧ bulk a ≤ Rows.uptoBulk x.1
theorem opens_int {P : Program} {t : TypeId} {k : IntKind} (h : P.underlying t = some (.int k)) (hc : P.cellsOf t = 1) : Opens P t (Kd.int k) (fun n => (Lit.int k n).wf = true) (fun _ => 1) where
  sz := hc
  one := fun _ => Nat.le_refl 1
  go := by
    intro H enc w base spare held fuel cs x hx
    obtain ⟨n, rfl, rfl, hw⟩ := DataW.trod_int h hx
    exact ⟨n, rfl, hw, by simp [Rows.uptoBulk]⟩
theorem opens_string {P : Program} {t : TypeId} (h : P.underlying t = some .string) (hc : P.cellsOf t = 1) : Opens P t Kd.string (fun s => s.size ≤ maxLen) (fun s => s.size + 1) where
  sz := hc
  one := fun s => Nat.le_add_left 1 s.size
  go := by
    intro H enc w base spare held fuel cs x hx
    obtain ⟨s, rfl, rfl, hw⟩ := DataW.trod_string h hx
    exact ⟨s, rfl, hw, by simp [Rows.uptoBulk]⟩
def sumBulk {α : Type} (bulk : α → Nat) (l : List α) : Nat := (l.map bulk).sum
theorem sumBulk_nil {α : Type} (bulk : α → Nat) : sumBulk bulk [] = 0 := rfl
theorem sumBulk_cons {α : Type} (bulk : α → Nat) (x : α) (l : List α) : sumBulk bulk (x :: l) = bulk x + sumBulk bulk l := by simp [sumBulk]
theorem sumBulk_append {α : Type} (bulk : α → Nat) (l r : List α) : sumBulk bulk (l ++ r) = sumBulk bulk l + sumBulk bulk r := by simp [sumBulk, List.sum_append]
theorem sumBulk_len {α : Type} (bulk : α → Nat) (h1 : ∀ x, 1 ≤ bulk x) (l : List α) : l.length ≤ sumBulk bulk l := by
  induction l with
  | nil => exact Nat.zero_le _
  | cons y r ih => rw [sumBulk_cons, List.length_cons]; have := h1 y; omega
theorem list_of {α : Type} {Q : Nat → α → Prop} : ∀ (n : Nat), (∀ i, i < n → ∃ y, Q i y) → ∃ l : List α, l.length = n ∧ ∀ i y, l[i]? = some y → Q i y
  | 0, _ => ⟨[], rfl, fun i y h => by simp at h⟩
  | n + 1, h => by
    obtain ⟨l, hl, hq⟩ := list_of n (fun i hi => h i (by omega))
    obtain ⟨y, hy⟩ := h n (by omega)
    refine ⟨l ++ [y], by simp [hl], fun i z hz => ?_⟩
    rcases Nat.lt_trichotomy i n with hi | hi | hi
    · rw [List.getElem?_append_left (by omega)] at hz
      exact hq i z hz
    · subst hi
      rw [List.getElem?_append_right (by omega), hl] at hz
      simp at hz
      subst hz
      exact hy
    · rw [List.getElem?_eq_none (by simp [hl]; omega)] at hz
      cases hz
theorem bulkAll_append {H : Type} (l r : List (DataW H)) : Rows.uptoBulkAll (l ++ r) = Rows.uptoBulkAll l + Rows.uptoBulkAll r := by
  induction l with
  | nil => simp [Rows.uptoBulkAll]
  | cons x l ih => simp only [List.cons_append, Rows.uptoBulkAll, ih]; omega
theorem bulkAll_map {H : Type} {α : Type} (bulk : α → Nat) (D : Nat → DataW H) : ∀ (n : Nat) (l : List α), l.length = n → (∀ i y, l[i]? = some y → bulk y ≤ Rows.uptoBulk (D i)) → sumBulk bulk l ≤ Rows.uptoBulkAll ((List.range n).map D)
  | 0, l, hl, _ => by
    have : l = [] := List.length_eq_zero_iff.1 hl
    subst this
    simp [sumBulk]
  | n + 1, l, hl, h => by
    have hne : l ≠ [] := by
      intro e
      rw [e] at hl
      simp at hl
    obtain ⟨l0, y0, rfl⟩ : ∃ l0 y0, l = l0 ++ [y0] := ⟨l.dropLast, l.getLast hne, (List.dropLast_concat_getLast hne).symm⟩
    have hd : l0.length = n := by simpa using hl
    have ih := bulkAll_map bulk D n l0 hd (fun i y hy => h i y (by
      have hi : i < l0.length := (List.getElem?_eq_some_iff.1 hy).1
      rw [List.getElem?_append_left hi]
      exact hy))
    have hn := h n y0 (by
      rw [List.getElem?_append_right (by omega), hd]
      simp)
    rw [List.range_succ, List.map_append, bulkAll_append, sumBulk_append]
    simp only [List.map_cons, List.map_nil, sumBulk_cons, sumBulk_nil, Rows.uptoBulkAll]
    omega
theorem opens_slice {P : Program} {t e : TypeId} {α : Type} {d : Kd α} {good : α → Prop} {bulk : α → Nat} (h : P.underlying t = some (.slice e)) (hc : P.cellsOf t = 1) (he : Opens P e d good bulk) : Opens P t (Kd.slice e d) (fun l => ∀ x ∈ l, good x) (fun l => sumBulk bulk l + 1) where
  sz := hc
  one := fun l => Nat.le_add_left 1 _
  go := by
    intro H enc w base spare held fuel cs x hx
    rcases open_slice h hx with ⟨rfl, rfl⟩ | ⟨a, len, cap, m, n, D, Pl, rfl, hb, hl, hm, hmm, rfl, hi⟩
    · exact ⟨[], ⟨none, 0, rfl, Nat.le_refl _, Kd.C_nil _ _⟩, by simp, by simp [sumBulk, Rows.uptoBulk]⟩
    · have hlm : len ≤ m := by
        rw [hmm]
        split
        · exact hl
        · exact Nat.le_refl _
      obtain ⟨l, hll, hq⟩ := list_of (Q := fun i y => ∃ cs', w.cells? base (a.add (i * P.cellsOf e)) (P.cellsOf e) = some cs' ∧ d.K w y cs' ∧ good y ∧ bulk y ≤ Rows.uptoBulk (D i)) len (fun i hlt => by
        obtain ⟨cs', hcs, ht⟩ := hi i (by omega)
        obtain ⟨y, h1, h2, h3⟩ := he.go ht
        exact ⟨y, cs', hcs, h1, h2, h3⟩)
      subst hll
      refine ⟨l, ⟨some a, cap, rfl, hl, rfl, by unfold maxLen at hm; omega, fun _ => ⟨a, rfl, fun j p hj => ?_⟩⟩, fun x hx => ?_, ?_⟩
      · obtain ⟨cs', hcs, hk, _, _⟩ := hq j p hj
        obtain ⟨_, hlen, hat⟩ := World.cells?_some hcs
        rw [he.sz] at hlen hat
        refine ⟨cs', hlen, hk, fun i u hu => ?_⟩
        have hil : i < cs'.length := (List.getElem?_eq_some_iff.1 hu).1
        have := hat i (by omega)
        rw [Go.Deep.add_add] at this
        rw [this, hu]
      · obtain ⟨i, hi2⟩ := List.getElem?_of_mem hx
        obtain ⟨_, _, _, hg, _⟩ := hq i x hi2
        exact hg
      · have hbk := bulkAll_map bulk D l.length l rfl (fun i y hy => by
          obtain ⟨_, _, _, _, h5⟩ := hq i y hy
          exact h5)
        simp only [Rows.uptoBulk]
        omega
theorem opens_struct3 {P : Program} {t : TypeId} {f0 f1 f2 : Field} {α β γ : Type} {d0 : Kd α} {d1 : Kd β} {d2 : Kd γ} {g0 : α → Prop} {g1 : β → Prop} {g2 : γ → Prop} {b0 : α → Nat} {b1 : β → Nat} {b2 : γ → Nat} (ht : P.underlying t = some (.struct #[f0, f1, f2])) (hc : P.cellsOf t = d0.sz + (d1.sz + d2.sz))
    (ho0 : f0.offset = 0) (ho1 : f1.offset = d0.sz) (ho2 : f2.offset = d0.sz + d1.sz) (h0 : Opens P f0.type d0 g0 b0) (h1 : Opens P f1.type d1 g1 b1) (h2 : Opens P f2.type d2 g2 b2) : Opens P t (Kd.pair d0 (Kd.pair d1 d2)) (fun x => g0 x.1 ∧ g1 x.2.1 ∧ g2 x.2.2) (fun x => b0 x.1 + b1 x.2.1 + b2 x.2.2 + 1) where
  sz := hc
  one := fun l => Nat.le_add_left 1 _
  go := by
    intro H enc w base spare held fuel cs x hx
    obtain ⟨y0, y1, y2, n, rfl, hl, e0, e1, e2⟩ := trod_struct3 ht hx
    obtain ⟨a, k0, q0, p0⟩ := h0.go e0
    obtain ⟨b, k1, q1, p1⟩ := h1.go e1
    obtain ⟨c, k2, q2, p2⟩ := h2.go e2
    rw [ho0, h0.sz] at k0
    rw [ho1, h1.sz] at k1
    rw [ho2, h2.sz] at k2
    refine ⟨(a, b, c), ⟨_, _, ?_, k0, _, _, rfl, k1, k2⟩, ⟨q0, q1, q2⟩, ?_⟩
    · rw [List.drop_zero]
      have hd : (cs.drop (d0.sz + d1.sz)).take d2.sz = cs.drop (d0.sz + d1.sz) := List.take_of_length_le (by rw [List.length_drop]; omega)
      rw [hd, ← List.drop_drop, List.take_append_drop, List.take_append_drop]
    · simp only [Rows.uptoBulk, Rows.uptoBulkAll]
      omega
theorem seg_join {α : Type} (cs : List α) (o n : Nat) : (cs.drop o).take n ++ cs.drop (o + n) = cs.drop o := by
  rw [← List.drop_drop, List.take_append_drop]
theorem opens_struct5 {P : Program} {t : TypeId} {f0 f1 f2 f3 f4 : Field} {α0 α1 α2 α3 α4 : Type} {d0 : Kd α0} {d1 : Kd α1} {d2 : Kd α2} {d3 : Kd α3} {d4 : Kd α4} {g0 : α0 → Prop} {g1 : α1 → Prop} {g2 : α2 → Prop} {g3 : α3 → Prop} {g4 : α4 → Prop} {b0 : α0 → Nat} {b1 : α1 → Nat} {b2 : α2 → Nat} {b3 : α3 → Nat} {b4 : α4 → Nat} (ht : P.underlying t = some (.struct #[f0, f1, f2, f3, f4])) (hc : P.cellsOf t = (d0.sz + (d1.sz + (d2.sz + (d3.sz + d4.sz)))))
    (ho0 : f0.offset = 0) (ho1 : f1.offset = d0.sz) (ho2 : f2.offset = d0.sz + d1.sz) (ho3 : f3.offset = d0.sz + d1.sz + d2.sz) (ho4 : f4.offset = d0.sz + d1.sz + d2.sz + d3.sz) (h0 : Opens P f0.type d0 g0 b0) (h1 : Opens P f1.type d1 g1 b1) (h2 : Opens P f2.type d2 g2 b2) (h3 : Opens P f3.type d3 g3 b3) (h4 : Opens P f4.type d4 g4 b4) : Opens P t (Kd.pair d0 (Kd.pair d1 (Kd.pair d2 (Kd.pair d3 d4)))) (fun x => g0 x.1 ∧ g1 x.2.1 ∧ g2 x.2.2.1 ∧ g3 x.2.2.2.1 ∧ g4 x.2.2.2.2) (fun x => b0 x.1 + b1 x.2.1 + b2 x.2.2.1 + b3 x.2.2.2.1 + b4 x.2.2.2.2 + 1) where
  sz := hc
  one := fun l => Nat.le_add_left 1 _
  go := by
    intro H enc w base spare held fuel cs x hx
    obtain ⟨xs, n, _, rfl, hl, hlen, hf⟩ := DataW.trod_struct ht hx
    match xs, hlen with
    | [y0, y1, y2, y3, y4], _ =>
      obtain ⟨a0, k0, q0, p0⟩ := h0.go (show DataW.trod enc P w base spare held n f0.type ((cs.drop f0.offset).take (P.cellsOf f0.type)) = some y0 from by simpa using hf 0 f0 rfl)
      rw [ho0, h0.sz] at k0
      obtain ⟨a1, k1, q1, p1⟩ := h1.go (show DataW.trod enc P w base spare held n f1.type ((cs.drop f1.offset).take (P.cellsOf f1.type)) = some y1 from by simpa using hf 1 f1 rfl)
      rw [ho1, h1.sz] at k1
      obtain ⟨a2, k2, q2, p2⟩ := h2.go (show DataW.trod enc P w base spare held n f2.type ((cs.drop f2.offset).take (P.cellsOf f2.type)) = some y2 from by simpa using hf 2 f2 rfl)
      rw [ho2, h2.sz] at k2
      obtain ⟨a3, k3, q3, p3⟩ := h3.go (show DataW.trod enc P w base spare held n f3.type ((cs.drop f3.offset).take (P.cellsOf f3.type)) = some y3 from by simpa using hf 3 f3 rfl)
      rw [ho3, h3.sz] at k3
      obtain ⟨a4, k4, q4, p4⟩ := h4.go (show DataW.trod enc P w base spare held n f4.type ((cs.drop f4.offset).take (P.cellsOf f4.type)) = some y4 from by simpa using hf 4 f4 rfl)
      rw [ho4, h4.sz] at k4
      refine ⟨(a0, a1, a2, a3, a4), ⟨_, _, ?_, k0, _, _, rfl, k1, _, _, rfl, k2, _, _, rfl, k3, k4⟩, ⟨q0, q1, q2, q3, q4⟩, ?_⟩
      · rw [List.drop_zero]
        have hd : (cs.drop (d0.sz + d1.sz + d2.sz + d3.sz)).take d4.sz = cs.drop (d0.sz + d1.sz + d2.sz + d3.sz) := List.take_of_length_le (by rw [List.length_drop]; omega)
        rw [hd, seg_join, seg_join, seg_join, List.take_append_drop]
      · simp only [List.map_cons, List.map_nil, Rows.uptoBulk, Rows.uptoBulkAll]
        omega
/-- a kind that is told by a structure of its own -/
theorem opens_iso {P : Program} {t : TypeId} {α β : Type} {d : Kd α} {good : α → Prop} {bulk : α → Nat} (h : Opens P t d good bulk) (f : β → α) (g : α → β) (hfg : ∀ a, f (g a) = a) : Opens P t (Kd.iso d f) (fun x => good (f x)) (fun x => bulk (f x)) where
  sz := h.sz
  one := fun x => h.one (f x)
  go := by
    intro H enc w base spare held fuel cs x hx
    obtain ⟨a, k, q, p⟩ := h.go hx
    refine ⟨g a, ?_, ?_, ?_⟩
    · show d.K w (f (g a)) cs
      rw [hfg]; exact k
    · rw [hfg]; exact q
    · rw [hfg]; exact p
/-- an argument's bulk, of the whole's -/
theorem bulk_bound {H : Type} {ds : List (DataW H)} (hk : Rows.uptoSmall H ds = true) : Rows.uptoBulkAll ds ≤ 1048576 := of_decide_eq_true hk

end Go.Proofs.Ytehfcafmdnfamaa.G

/- Printed by the session's program over the kit's print, out of the translation: functions as plain Lean functions, and the proofs that the calls come to them. -/
namespace Go.Proofs.Ytehfcafmdnfamaa.G
open Go.RowKit Go.Proofs.YtehfcafmdnfamaaW.PrintWords Go.Proofs.YtehfcafmdnfamaaW.PrintLast Go.Proofs.YtehfcafmdnfamaaW.PrintMore
attribute [local go_sem] max2_int min2_int max_two min_two max_three min_three max_four min_four   -- for this text's walks alone
set_option linter.unusedVariables false
set_option linter.unusedSimpArgs false

/-! ### moraineref08_New: function 11 -/
def moraineref08_New.f (a0 : Int) : Option (Int × (List (S45)) × List Int × Int) := if a0 < 1 then (some (0, ([] : List (S45)), ([] : List Int), 2)) else (if a0 > 1048576 then (some (0, ([] : List (S45)), ([] : List Int), 2)) else (some (a0, ([] : List (S45)), ([] : List Int), 0)))
set_option maxHeartbeats 8000000 in
set_option maxRecDepth 100000 in
theorem moraineref08_New.calls (a0 : Int) (r1 : Int) (r2 : List (S45)) (r3 : List Int) (r4 : Int) (w : World) (h : moraineref08_New.f a0 = some (r1, r2, r3, r4)) :
    Calls Try.prog 11 #[.int .i64 a0] w fun e w' => ∃ v1_ v2_ : Value, e = .returned (.tuple #[.agg #[.int .i64 r1, v1_, v2_], .int .i64 r4]) ∧ Kd.R k45 45 w' w.heap.size (fun _ => True) v1_ r2 ∧ Kd.R (Kd.int .i64) 3 w' w.heap.size (fun _ => True) v2_ r3 ∧ Below w.heap.size w w' := by
  have hu30 := Try.underlying30
  have HB := Aside0.mk (Below.refl w.heap.size w)
  have H : (if a0 < 1 then (some (0, ([] : List (S45)), ([] : List Int), 2)) else (if a0 > 1048576 then (some (0, ([] : List (S45)), ([] : List Int), 2)) else (some (a0, ([] : List (S45)), ([] : List Int), 0)))) = some (r1, r2, r3, r4) := h
  clear h
  by_cases c2 : a0 < 1
  · rw [if_pos c2] at H
    have c2b0 : decide (a0 < 1) = true := decide_eq_true c2
    clear c2
    simp only [Option.some.injEq, Prod.mk.injEq] at H
    obtain ⟨rfl, rfl, rfl, rfl⟩ := H
    go_enter Try.func11, Try.ntmps11
    go_wp2_with (first | ((with_reducible refine gate_dst (N := 2) rfl ?_); refine box_event ?hg (N := 2) ?hd (cs := #[.int .i64 0, .slice none 0 0, .slice none 0 0]) (t := 30) ?hr ?_; (case hd => rfl); (case hg => rfl); (case hr => first | (go_simp; done) | (go_simp; rfl)); intro gb125 hg w3 hbox hb; have n0_ := Aside0.mk (below_step (by repeat (first | (with_reducible first | exact HB.out | apply below_alloc | apply pw_below_drewN | apply below_drew1) | exact HB.out)) hb); have n1_ := Aside0.mk (hbox); have n2_ := Aside0.mk ((by rw [hg]; exact (below_size (by repeat (first | (with_reducible first | exact HB.out | apply below_alloc | apply pw_below_drewN | apply below_drew1) | exact HB.out))) : w.heap.size ≤ gb125)); have n3_ := Aside0.mk ((by rw [hg]; exact (below_size (by repeat (first | (with_reducible first | exact HB.out | apply below_alloc | apply pw_below_drewN | apply below_drew1) | exact HB.out))) : w.heap.size ≤ gb125)); clear HB; have HB := n0_; have BK125 := n1_; have GW125 := n2_; have GE125 := n3_; clear n0_ n1_ n2_ n3_; clear hb hbox hg; have hcz4_0 : w3.cell? ⟨gb125, 0, none⟩ = some (.int .i64 0) := (blk_cell BK125.out 0).trans rfl; have hcz4_1 : w3.cell? ⟨gb125, 1, none⟩ = some (.slice none 0 0) := (blk_cell BK125.out 1).trans rfl; have hcz4_2 : w3.cell? ⟨gb125, 2, none⟩ = some (.slice none 0 0) := (blk_cell BK125.out 2).trans rfl; have hfz4_0 := blk_frozen BK125.out 0; have hfz4_1 := blk_frozen BK125.out 1; have hfz4_2 := blk_frozen BK125.out 2))
    refine bodyPost_ret (results_ct rfl _ _ gb125 30 #[.int .i64 0, .slice none 0 0, .slice none 0 0] (0, 0) _ rfl (by (with_reducible repeat (first | refine blk_drewN ?_ _ | refine blk_drew ?_ | refine blk_alloc ?_ _)); refine blk_put (cs := #[.int .i64 0, .slice none 0 0, .slice none 0 0]) ?_ 2 _ rfl; (with_reducible repeat (first | refine blk_drewN ?_ _ | refine blk_drew ?_ | refine blk_alloc ?_ _)); refine blk_put (cs := #[.int .i64 0, .slice none 0 0, .slice none 0 0]) ?_ 1 _ rfl; (with_reducible repeat (first | refine blk_drewN ?_ _ | refine blk_drew ?_ | refine blk_alloc ?_ _)); refine blk_put (cs := #[.int .i64 0, .slice none 0 0, .slice none 0 0]) ?_ 0 _ rfl; (with_reducible repeat (first | refine blk_drewN ?_ _ | refine blk_drew ?_ | refine blk_alloc ?_ _)); exact BK125.out) Try.underlying30 rfl (by kernel_rfl)) rfl ?_
    exact ⟨_, _, by first | rfl | (simp [errW_none, errW_some] <;> rfl) | (simp [*, errW_none, errW_some] <;> rfl), by first | exact Kd.R_nil _ _ _ _ _ | exact Kd.N_nil _ _ _ _ _ | exact Kd.V_nil _ _ _ _ _ | exact Kd.Q_nil _ _ _ _ _ | exact Kd.S_nil _ _ _ _ _, by first | exact Kd.R_nil _ _ _ _ _ | exact Kd.N_nil _ _ _ _ _ | exact Kd.V_nil _ _ _ _ _ | exact Kd.Q_nil _ _ _ _ _ | exact Kd.S_nil _ _ _ _ _, by repeat (first | (with_reducible first | exact HB.out | apply below_alloc | apply pw_below_drewN | apply below_drew1 | refine below_set ?_ GE125.out) | exact HB.out)⟩
  · rw [if_neg c2] at H
    have c2b0 : decide (a0 < 1) = false := decide_eq_false c2
    clear c2
    by_cases c5 : a0 > 1048576
    · rw [if_pos c5] at H
      have c5b0 : decide (1048576 < a0) = true := decide_eq_true c5
      clear c5
      simp only [Option.some.injEq, Prod.mk.injEq] at H
      obtain ⟨rfl, rfl, rfl, rfl⟩ := H
      go_enter Try.func11, Try.ntmps11
      go_wp2_with (first | ((with_reducible refine gate_dst (N := 2) rfl ?_); refine box_event ?hg (N := 2) ?hd (cs := #[.int .i64 0, .slice none 0 0, .slice none 0 0]) (t := 30) ?hr ?_; (case hd => rfl); (case hg => rfl); (case hr => first | (go_simp; done) | (go_simp; rfl)); intro gb125 hg w6 hbox hb; have n0_ := Aside0.mk (below_step (by repeat (first | (with_reducible first | exact HB.out | apply below_alloc | apply pw_below_drewN | apply below_drew1) | exact HB.out)) hb); have n1_ := Aside0.mk (hbox); have n2_ := Aside0.mk ((by rw [hg]; exact (below_size (by repeat (first | (with_reducible first | exact HB.out | apply below_alloc | apply pw_below_drewN | apply below_drew1) | exact HB.out))) : w.heap.size ≤ gb125)); have n3_ := Aside0.mk ((by rw [hg]; exact (below_size (by repeat (first | (with_reducible first | exact HB.out | apply below_alloc | apply pw_below_drewN | apply below_drew1) | exact HB.out))) : w.heap.size ≤ gb125)); clear HB; have HB := n0_; have BK125 := n1_; have GW125 := n2_; have GE125 := n3_; clear n0_ n1_ n2_ n3_; clear hb hbox hg; have hcz7_0 : w6.cell? ⟨gb125, 0, none⟩ = some (.int .i64 0) := (blk_cell BK125.out 0).trans rfl; have hcz7_1 : w6.cell? ⟨gb125, 1, none⟩ = some (.slice none 0 0) := (blk_cell BK125.out 1).trans rfl; have hcz7_2 : w6.cell? ⟨gb125, 2, none⟩ = some (.slice none 0 0) := (blk_cell BK125.out 2).trans rfl; have hfz7_0 := blk_frozen BK125.out 0; have hfz7_1 := blk_frozen BK125.out 1; have hfz7_2 := blk_frozen BK125.out 2))
      refine bodyPost_ret (results_ct rfl _ _ gb125 30 #[.int .i64 0, .slice none 0 0, .slice none 0 0] (0, 0) _ rfl (by (with_reducible repeat (first | refine blk_drewN ?_ _ | refine blk_drew ?_ | refine blk_alloc ?_ _)); refine blk_put (cs := #[.int .i64 0, .slice none 0 0, .slice none 0 0]) ?_ 2 _ rfl; (with_reducible repeat (first | refine blk_drewN ?_ _ | refine blk_drew ?_ | refine blk_alloc ?_ _)); refine blk_put (cs := #[.int .i64 0, .slice none 0 0, .slice none 0 0]) ?_ 1 _ rfl; (with_reducible repeat (first | refine blk_drewN ?_ _ | refine blk_drew ?_ | refine blk_alloc ?_ _)); refine blk_put (cs := #[.int .i64 0, .slice none 0 0, .slice none 0 0]) ?_ 0 _ rfl; (with_reducible repeat (first | refine blk_drewN ?_ _ | refine blk_drew ?_ | refine blk_alloc ?_ _)); exact BK125.out) Try.underlying30 rfl (by kernel_rfl)) rfl ?_
      exact ⟨_, _, by first | rfl | (simp [errW_none, errW_some] <;> rfl) | (simp [*, errW_none, errW_some] <;> rfl), by first | exact Kd.R_nil _ _ _ _ _ | exact Kd.N_nil _ _ _ _ _ | exact Kd.V_nil _ _ _ _ _ | exact Kd.Q_nil _ _ _ _ _ | exact Kd.S_nil _ _ _ _ _, by first | exact Kd.R_nil _ _ _ _ _ | exact Kd.N_nil _ _ _ _ _ | exact Kd.V_nil _ _ _ _ _ | exact Kd.Q_nil _ _ _ _ _ | exact Kd.S_nil _ _ _ _ _, by repeat (first | (with_reducible first | exact HB.out | apply below_alloc | apply pw_below_drewN | apply below_drew1 | refine below_set ?_ GE125.out) | exact HB.out)⟩
    · rw [if_neg c5] at H
      have c5b0 : decide (1048576 < a0) = false := decide_eq_false c5
      clear c5
      simp only [Option.some.injEq, Prod.mk.injEq] at H
      obtain ⟨rfl, rfl, rfl, rfl⟩ := H
      go_enter Try.func11, Try.ntmps11
      go_wp2_with (first | ((with_reducible refine gate_dst (N := 2) rfl ?_); refine box_event ?hg (N := 2) ?hd (cs := #[.int .i64 0, .slice none 0 0, .slice none 0 0]) (t := 30) ?hr ?_; (case hd => rfl); (case hg => rfl); (case hr => first | (go_simp; done) | (go_simp; rfl)); intro gb125 hg w8 hbox hb; have n0_ := Aside0.mk (below_step (by repeat (first | (with_reducible first | exact HB.out | apply below_alloc | apply pw_below_drewN | apply below_drew1) | exact HB.out)) hb); have n1_ := Aside0.mk (hbox); have n2_ := Aside0.mk ((by rw [hg]; exact (below_size (by repeat (first | (with_reducible first | exact HB.out | apply below_alloc | apply pw_below_drewN | apply below_drew1) | exact HB.out))) : w.heap.size ≤ gb125)); have n3_ := Aside0.mk ((by rw [hg]; exact (below_size (by repeat (first | (with_reducible first | exact HB.out | apply below_alloc | apply pw_below_drewN | apply below_drew1) | exact HB.out))) : w.heap.size ≤ gb125)); clear HB; have HB := n0_; have BK125 := n1_; have GW125 := n2_; have GE125 := n3_; clear n0_ n1_ n2_ n3_; clear hb hbox hg; have hcz9_0 : w8.cell? ⟨gb125, 0, none⟩ = some (.int .i64 0) := (blk_cell BK125.out 0).trans rfl; have hcz9_1 : w8.cell? ⟨gb125, 1, none⟩ = some (.slice none 0 0) := (blk_cell BK125.out 1).trans rfl; have hcz9_2 : w8.cell? ⟨gb125, 2, none⟩ = some (.slice none 0 0) := (blk_cell BK125.out 2).trans rfl; have hfz9_0 := blk_frozen BK125.out 0; have hfz9_1 := blk_frozen BK125.out 1; have hfz9_2 := blk_frozen BK125.out 2))
      refine bodyPost_ret (results_ct rfl _ _ gb125 30 #[.int .i64 a0, .slice none 0 0, .slice none 0 0] (0, 0) _ rfl (by (with_reducible repeat (first | refine blk_drewN ?_ _ | refine blk_drew ?_ | refine blk_alloc ?_ _)); refine blk_put (cs := #[.int .i64 a0, .slice none 0 0, .slice none 0 0]) ?_ 2 _ rfl; (with_reducible repeat (first | refine blk_drewN ?_ _ | refine blk_drew ?_ | refine blk_alloc ?_ _)); refine blk_put (cs := #[.int .i64 a0, .slice none 0 0, .slice none 0 0]) ?_ 1 _ rfl; (with_reducible repeat (first | refine blk_drewN ?_ _ | refine blk_drew ?_ | refine blk_alloc ?_ _)); refine blk_put (cs := #[.int .i64 0, .slice none 0 0, .slice none 0 0]) ?_ 0 _ rfl; (with_reducible repeat (first | refine blk_drewN ?_ _ | refine blk_drew ?_ | refine blk_alloc ?_ _)); exact BK125.out) Try.underlying30 rfl (by kernel_rfl)) rfl ?_
      exact ⟨_, _, by first | rfl | (simp [errW_none, errW_some] <;> rfl) | (simp [*, errW_none, errW_some] <;> rfl), by first | exact Kd.R_nil _ _ _ _ _ | exact Kd.N_nil _ _ _ _ _ | exact Kd.V_nil _ _ _ _ _ | exact Kd.Q_nil _ _ _ _ _ | exact Kd.S_nil _ _ _ _ _, by first | exact Kd.R_nil _ _ _ _ _ | exact Kd.N_nil _ _ _ _ _ | exact Kd.V_nil _ _ _ _ _ | exact Kd.Q_nil _ _ _ _ _ | exact Kd.S_nil _ _ _ _ _, by repeat (first | (with_reducible first | exact HB.out | apply below_alloc | apply pw_below_drewN | apply below_drew1 | refine below_set ?_ GE125.out) | exact HB.out)⟩

end Go.Proofs.Ytehfcafmdnfamaa.G

/- Printed by the session's program over the kit's print, out of the translation: functions as plain Lean functions, and the proofs that the calls come to them. -/
namespace Go.Proofs.Ytehfcafmdnfamaa.G
open Go.RowKit Go.Proofs.YtehfcafmdnfamaaW.PrintWords Go.Proofs.YtehfcafmdnfamaaW.PrintLast Go.Proofs.YtehfcafmdnfamaaW.PrintMore
attribute [local go_sem] max2_int min2_int max_two min_two max_three min_three max_four min_four   -- for this text's walks alone
set_option linter.unusedVariables false
set_option linter.unusedSimpArgs false

/-! ### morainelaw08_names: function 12 -/
def morainelaw08_names.f  : Option (Bool) := some true
set_option maxHeartbeats 8000000 in
set_option maxRecDepth 100000 in
theorem morainelaw08_names.calls  (r : Bool) (w : World) (h : morainelaw08_names.f  = some r) :
    Calls Try.prog 12 #[] w fun e w' => e = .returned (.bool r) ∧ Drawn0 w w' := by
  have H : (some true) = some r := h
  clear h
  obtain rfl := Option.some.inj H
  go_enter Try.func12, Try.ntmps12
  go_wp2
  go_ret
  exact ⟨by first | rfl | (simp; done) | (simp [*]; done), by repeat (first | exact Drawn0.refl _ | apply Drawn0.step)⟩

end Go.Proofs.Ytehfcafmdnfamaa.G

/- Printed by the session's program over the kit's print, out of the translation: functions as plain Lean functions, and the proofs that the calls come to them. -/
namespace Go.Proofs.Ytehfcafmdnfamaa.G
open Go.RowKit Go.Proofs.YtehfcafmdnfamaaW.PrintWords Go.Proofs.YtehfcafmdnfamaaW.PrintLast Go.Proofs.YtehfcafmdnfamaaW.PrintMore
attribute [local go_sem] max2_int min2_int max_two min_two max_three min_three max_four min_four   -- for this text's walks alone
set_option linter.unusedVariables false
set_option linter.unusedSimpArgs false

/-! ### morainelaw08_among: function 30 -/
def morainelaw08_among.f (a0 : Int) (a1 : Int) : Option (Int) := if a1 = 0 then (none) else (some (Int.tmod (wrap64 ((Int.tmod a0 a1) + a1)) a1))
set_option maxHeartbeats 8000000 in
set_option maxRecDepth 100000 in
theorem morainelaw08_among.calls (a0 : Int) (a1 : Int) (r : Int) (w : World) (h : morainelaw08_among.f a0 a1 = some r) :
    Calls Try.prog 30 #[.int .i64 a0, .int .i64 a1] w fun e w' => e = .returned (.int .i64 r) ∧ Drawn0 w w' := by
  have H : (if a1 = 0 then (none) else (some (Int.tmod (wrap64 ((Int.tmod a0 a1) + a1)) a1))) = some r := h
  clear h
  by_cases c3 : a1 = 0
  · rw [if_pos c3] at H
    exact absurd H (by simp)
  · rw [if_neg c3] at H
    have c3b0 : (a1 == 0) = false := beq_eq_false_iff_ne.mpr c3
    have c3b1 : (a1 != 0) = true := bne_iff_ne.mpr c3
    obtain rfl := Option.some.inj H
    go_enter Try.func30, Try.ntmps30
    go_wp2
    go_ret
    exact ⟨by first | rfl | (simp; done) | (simp [*]; done), by repeat (first | exact Drawn0.refl _ | apply Drawn0.step)⟩

end Go.Proofs.Ytehfcafmdnfamaa.G

/- Contracts typed by hand: the law SkipPlays: what each call tells -/
namespace Go.Proofs.Ytehfcafmdnfamaa.G
open Go.RowKit Go.Proofs.YtehfcafmdnfamaaW.PrintWords Go.Proofs.YtehfcafmdnfamaaW.PrintLast Go.Proofs.YtehfcafmdnfamaaW.PrintMore
attribute [local go_sem] max2_int min2_int max_two min_two max_three min_three max_four min_four
set_option linter.unusedVariables false
set_option linter.unusedSimpArgs false

/-! the law SkipPlays: what each call tells -/
attribute [local go_sem] Oper.semAt_some
attribute [local go_sem high] eqAk
namespace St
set_option maxHeartbeats 16000000 in
set_option maxRecDepth 100000 in
theorem asked_2 (g base most : Nat) (S : SL ByteArray) (An : Option Addr) (cn : Nat) (Ao : Option Addr) (co : Nat) (mo kind height n : Int) (ks : ByteArray) (kn kd : Int) (v : ByteArray) (w : World) (h : SkAt w g base S most) (hCn : Kd.C k45 w An (nodesR id S).length (nodesR id S)) (hcn : (nodesR id S).length ≤ cn) (hCo : Kd.C (Kd.int .i64) w Ao (ordR S).length (ordR S)) (hco : (ordR S).length ≤ co) (hwf : wrap64 n = n) (hk : morainelaw08_among.f kind 8 = some 2) :
    Calls Try.prog 35 #[.pointer (some ⟨g, 0, none⟩), .agg #[.int .i64 mo, .slice An (nodesR id S).length cn, .slice Ao (ordR S).length co], .agg #[.int .i64 kind, .int .i64 height, .int .i64 n, .string ks, .int .u64 kn, .int .i64 kd, .string v]] w fun e w' => e = .returned (.bool true) ∧ Below w.heap.size w w' := by
  have hf := h.fine
  have hol := hf.1.len
  have hnl := nodesR_len id S
  have HNL := Aside0.mk hnl
  have HS1 := Aside0.mk (fun W (hb : Below w.heap.size w W) => sk_seek g base most S (ks, kn, kd) W (h.below hb))
  have HS2 := Aside0.mk (fun W (hb : Below w.heap.size w W) => sk_before g base most S (ks, kn, kd) W (h.below hb))
  have HR1 := Aside0.mk (fun W (hb : Below w.heap.size w W) => moraineref08_List_Seek.calls 2097152 mo An cn (nodesR id S) Ao co (ordR S) ks kn kd _ W (Kd.C_below hCn hb) hcn (Kd.C_below hCo hb) hco (rseek_eq id hf.1 hf.2.1 mo (ks, kn, kd) 2097152 (by omega)))
  have HR2 := Aside0.mk (fun W (hb : Below w.heap.size w W) => moraineref08_List_Before.calls 2097152 mo An cn (nodesR id S) Ao co (ordR S) ks kn kd _ W (Kd.C_below hCn hb) hcn (Kd.C_below hCo hb) hco (rbefore_eq id hf.1 hf.2.1 mo (ks, kn, kd) 2097152 (by omega)))
  obtain ⟨nn, hnn⟩ : ∃ nn, (nodesR id S).length = nn := ⟨_, rfl⟩
  obtain ⟨no, hno⟩ : ∃ no, (ordR S).length = no := ⟨_, rfl⟩
  rw [hnn, hno]
  rw [hnn] at HNL
  rw [hnn, hno] at HR1 HR2
  obtain ⟨x1, hx1⟩ : ∃ x, ((S.seek (ks, kn, kd) : Nat) : Int) = x := ⟨_, rfl⟩
  rw [hx1] at HS1
  rw [hx1] at HR1
  clear hx1
  obtain ⟨x2, hx2⟩ : ∃ x, ((S.before (ks, kn, kd) : Nat) : Int) = x := ⟨_, rfl⟩
  rw [hx2] at HS2
  rw [hx2] at HR2
  clear hx2
  obtain ⟨W0, hW0⟩ : ∃ W0, (w.alloc (.cells #[.int .i64 mo, .slice An nn cn, .slice Ao no co] 30)).alloc (.cells #[.int .i64 kind, .int .i64 height, .int .i64 n, .string ks, .int .u64 kn, .int .i64 kd, .string v] 72) = W0 := ⟨_, rfl⟩
  have hx4 : W0.heap[w.heap.size]? = some (.cells #[.int .i64 mo, .slice An nn cn, .slice Ao no co] 30 (0, 0)) := by rw [← hW0]; exact (Below.heap_alloc _ _ _ (by rw [World.size_alloc]; omega)).trans (blk_new w _)
  have hx5 : W0.heap[w.heap.size + 1]? = some (.cells #[.int .i64 kind, .int .i64 height, .int .i64 n, .string ks, .int .u64 kn, .int .i64 kd, .string v] 72 (0, 0)) := by
    have := blk_new (w.alloc (.cells #[.int .i64 mo, .slice An nn cn, .slice Ao no co] 30)) (.cells #[.int .i64 kind, .int .i64 height, .int .i64 n, .string ks, .int .u64 kn, .int .i64 kd, .string v] 72)
    rw [World.size_alloc] at this
    rw [← hW0]; exact this
  have HB := Aside0.mk (show Below w.heap.size w W0 by rw [← hW0]; exact below_alloc (below_alloc (Below.refl _ _) _) _)
  have HX4 := Aside0.mk hx4
  have HX5 := Aside0.mk hx5
  have HW := Aside0.mk hW0
  have y0 := (blk_cell hx5 0).trans (show _ = some (.int .i64 kind) from rfl)
  rw [← hW0] at y0
  have HAM := Aside0.mk hk
  clear hk
  clear h hCn hcn hCo hco hf hol hnl hnn hno hW0 hx4 hx5 hwf 
  go_enter Try.func35, Try.ntmps35
  go_wp2_with fail
  rw [HW.out]
  (with_reducible refine (morainelaw08_among.calls kind 8 2 _ HAM.out).mono ?_)
  rintro e w1 ⟨rfl, hd⟩
  have HB := Aside0.mk (below_step HB.out hd.below)
  have HX4 := Aside0.mk (blk_below HX4.out hd.below)
  have HX5 := Aside0.mk (blk_below HX5.out hd.below)
  clear hd y0 HW HAM
  have k0 : w1.cell? ⟨w.heap.size + 1, 3, none⟩ = some (.string ks) := (blk_cell HX5.out 3).trans rfl
  have k1 : w1.cell? ⟨w.heap.size + 1, 4, none⟩ = some (.int .u64 kn) := (blk_cell HX5.out 4).trans rfl
  have k2 : w1.cell? ⟨w.heap.size + 1, 5, none⟩ = some (.int .i64 kd) := (blk_cell HX5.out 5).trans rfl
  have r0 : w1.cell? ⟨w.heap.size, 0, none⟩ = some (.int .i64 mo) := (blk_cell HX4.out 0).trans rfl
  have r1 : w1.cell? ⟨w.heap.size, 1, none⟩ = some (.slice An nn cn) := (blk_cell HX4.out 1).trans rfl
  have r2 : w1.cell? ⟨w.heap.size, 2, none⟩ = some (.slice Ao no co) := (blk_cell HX4.out 2).trans rfl
  go_wp2_with fail
  refine start_ (n := 21) (S := fun w' => w'.cell? ⟨w.heap.size + 1, 3, none⟩ = some (.string ks) ∧ w'.cell? ⟨w.heap.size + 1, 4, none⟩ = some (.int .u64 kn) ∧ w'.cell? ⟨w.heap.size + 1, 5, none⟩ = some (.int .i64 kd) ∧ w'.cell? ⟨w.heap.size, 0, none⟩ = some (.int .i64 mo) ∧ w'.cell? ⟨w.heap.size, 1, none⟩ = some (.slice An nn cn) ∧ w'.cell? ⟨w.heap.size, 2, none⟩ = some (.slice Ao no co)) (ds := []) #[false, false, false, false, false, false, false, false, false, false, false, false, false, false, false, false, false, false, false, false, false] (by kernel_rfl) rfl rfl ⟨k0, k1, k2, r0, r1, r2⟩ (fun hHeld => ?_)
  refine pure_ (i := 0) (N := some 46) (v := ?_) (a' := ?_) #[true, false, false, false, false, false, false, false, false, false, false, false, false, false, false, false, false, false, false, false, false] rfl rfl (by kernel_rfl) (fun _ _ _ h => h) (Or.inl ⟨by rfl, ?_⟩) ?_ ?_
  rotate_left
  · intro w'
    go_simp
    with_reducible rfl
  rotate_left
  · simp only [Act.put, List.setIfInBounds_toArray, List.set_cons_zero, List.set_cons_succ, i64_w, i32_w]
    rfl
  refine pure_ (i := 1) (N := some 47) (v := ?_) (a' := ?_) #[true, true, false, false, false, false, false, false, false, false, false, false, false, false, false, false, false, false, false, false, false] rfl rfl (by kernel_rfl) (fun _ _ _ h => h) (Or.inl ⟨by rfl, ?_⟩) ?_ ?_
  rotate_left
  · intro w'
    go_simp
    with_reducible rfl
  rotate_left
  · simp only [Act.put, List.setIfInBounds_toArray, List.set_cons_zero, List.set_cons_succ, i64_w, i32_w]
    rfl
  refine pure_ (i := 5) (N := some 51) (v := ?_) (a' := ?_) #[true, true, false, false, false, true, false, false, false, false, false, false, false, false, false, false, false, false, false, false, false] rfl rfl (by kernel_rfl) (fun _ _ _ h => h) (Or.inl ⟨by rfl, ?_⟩) ?_ ?_
  rotate_left
  · intro w'
    go_simp
    with_reducible rfl
  rotate_left
  · simp only [Act.put, List.setIfInBounds_toArray, List.set_cons_zero, List.set_cons_succ, i64_w, i32_w]
    rfl
  refine take_ (i := 2) (N := some 48) (v := ?_) (a' := ?_) #[true, true, true, false, false, true, false, false, false, false, false, false, false, false, false, false, false, false, false, false, false] rfl rfl (by kernel_rfl) (fun _ _ _ h => h) (Or.inl ⟨by rfl, ?_⟩) hHeld ?_ ?_
  rotate_left
  · rintro w' ⟨s0, s1, s2, s3, s4, s5⟩
    go_simp
    with_reducible rfl
  rotate_left
  · simp only [Act.put, List.setIfInBounds_toArray, List.set_cons_zero, List.set_cons_succ, i64_w, i32_w]
    rfl
  refine take_ (i := 4) (N := some 50) (v := ?_) (a' := ?_) #[true, true, true, false, true, true, false, false, false, false, false, false, false, false, false, false, false, false, false, false, false] rfl rfl (by kernel_rfl) (fun _ _ _ h => h) (Or.inl ⟨by rfl, ?_⟩) hHeld ?_ ?_
  rotate_left
  · rintro w' ⟨s0, s1, s2, s3, s4, s5⟩
    go_simp
    with_reducible rfl
  rotate_left
  · simp only [Act.put, List.setIfInBounds_toArray, List.set_cons_zero, List.set_cons_succ, i64_w, i32_w]
    rfl
  refine take_ (i := 6) (N := some 52) (v := ?_) (a' := ?_) #[true, true, true, false, true, true, true, false, false, false, false, false, false, false, false, false, false, false, false, false, false] rfl rfl (by kernel_rfl) (fun _ _ _ h => h) (Or.inl ⟨by rfl, ?_⟩) hHeld ?_ ?_
  rotate_left
  · rintro w' ⟨s0, s1, s2, s3, s4, s5⟩
    go_simp
    with_reducible rfl
  rotate_left
  · simp only [Act.put, List.setIfInBounds_toArray, List.set_cons_zero, List.set_cons_succ, i64_w, i32_w]
    rfl
  refine one_ (i := 3) (N := some 49) #[true, true, true, true, true, true, true, false, false, false, false, false, false, false, false, false, false, false, false, false, false] rfl rfl (by kernel_rfl) (by decide) (fun K hK => ?_)
  refine goes_ Try.func54 (by kernel_rfl) rfl #[.pointer (some ⟨g, 0, none⟩), .agg #[.string ks, .int .u64 kn, .int .i64 kd]] (by rfl) rfl rfl (by simp only [List.map_toArray, List.map_cons, List.map_nil]; rfl) ?_
  with_reducible refine (HS1.out _ (below_step HB.out (below_drew1 (Below.refl _ _)))).mono ?_
  rintro e wa ⟨rfl, hb⟩
  refine ⟨_, rfl, ?_⟩
  have HDa := Aside0.mk (show Below w1.heap.size w1 wa from below_step (below_drew1 (Below.refl _ _)) hb)
  clear hb
  refine hK.out _ _ ⟨pw_cell_below HDa.out k0, pw_cell_below HDa.out k1, pw_cell_below HDa.out k2, pw_cell_below HDa.out r0, pw_cell_below HDa.out r1, pw_cell_below HDa.out r2⟩ (fun hHeld => ?_)
  clear hK K
  refine norm_ (a' := ?_) ?_ ?_
  rotate_left
  · show Act.put _ (some 49) _ = _
    simp only [Act.put, List.setIfInBounds_toArray, List.set_cons_zero, List.set_cons_succ, i64_w, i32_w]
    rfl
  refine one_ (i := 7) (N := some 53) #[true, true, true, true, true, true, true, true, false, false, false, false, false, false, false, false, false, false, false, false, false] rfl rfl (by kernel_rfl) (by decide) (fun K hK => ?_)
  refine goes_ Try.func55 (by kernel_rfl) rfl #[.agg #[.int .i64 mo, .slice An nn cn, .slice Ao no co], .agg #[.string ks, .int .u64 kn, .int .i64 kd]] (by rfl) rfl rfl (by simp only [List.map_toArray, List.map_cons, List.map_nil]; rfl) ?_
  with_reducible refine (HR1.out _ (below_step HB.out HDa.out)).mono ?_
  rintro e wb ⟨rfl, hb⟩
  refine ⟨_, rfl, ?_⟩
  have HDb := Aside0.mk (show Below w1.heap.size w1 wb from below_step HDa.out hb)
  clear hb
  refine hK.out _ _ ⟨pw_cell_below HDb.out k0, pw_cell_below HDb.out k1, pw_cell_below HDb.out k2, pw_cell_below HDb.out r0, pw_cell_below HDb.out r1, pw_cell_below HDb.out r2⟩ (fun hHeld => ?_)
  clear hK K
  refine norm_ (a' := ?_) ?_ ?_
  rotate_left
  · show Act.put _ (some 53) _ = _
    simp only [Act.put, List.setIfInBounds_toArray, List.set_cons_zero, List.set_cons_succ, i64_w, i32_w]
    rfl
  refine pure_ (i := 8) (N := some 54) (v := ?_) (a' := ?_) #[true, true, true, true, true, true, true, true, true, false, false, false, false, false, false, false, false, false, false, false, false] rfl rfl (by kernel_rfl) (fun _ _ _ h => h) (Or.inl ⟨by rfl, ?_⟩) ?_ ?_
  rotate_left
  · intro w'
    go_simp
    with_reducible rfl
  rotate_left
  · simp only [Act.put, List.setIfInBounds_toArray, List.set_cons_zero, List.set_cons_succ, i64_w, i32_w]
    rfl
  refine pure_ (i := 9) (N := some 55) (v := ?_) (a' := ?_) #[true, true, true, true, true, true, true, true, true, true, false, false, false, false, false, false, false, false, false, false, false] rfl rfl (by kernel_rfl) (fun _ _ _ h => h) (Or.inl ⟨by rfl, ?_⟩) ?_ ?_
  rotate_left
  · intro w'
    go_simp
    with_reducible rfl
  rotate_left
  · simp only [Act.put, List.setIfInBounds_toArray, List.set_cons_zero, List.set_cons_succ, i64_w, i32_w]
    rfl
  refine pure_ (i := 10) (N := some 56) (v := ?_) (a' := ?_) #[true, true, true, true, true, true, true, true, true, true, true, false, false, false, false, false, false, false, false, false, false] rfl rfl (by kernel_rfl) (fun _ _ _ h => h) (Or.inl ⟨by rfl, ?_⟩) ?_ ?_
  rotate_left
  · intro w'
    go_simp
    with_reducible rfl
  rotate_left
  · simp only [Act.put, List.setIfInBounds_toArray, List.set_cons_zero, List.set_cons_succ, i64_w, i32_w]
    rfl
  refine pure_ (i := 11) (N := some 57) (v := ?_) (a' := ?_) #[true, true, true, true, true, true, true, true, true, true, true, true, false, false, false, false, false, false, false, false, false] rfl rfl (by kernel_rfl) (fun _ _ _ h => h) (Or.inl ⟨by rfl, ?_⟩) ?_ ?_
  rotate_left
  · intro w'
    go_simp
    with_reducible rfl
  rotate_left
  · simp only [Act.put, List.setIfInBounds_toArray, List.set_cons_zero, List.set_cons_succ, i64_w, i32_w]
    rfl
  refine pure_ (i := 15) (N := some 61) (v := ?_) (a' := ?_) #[true, true, true, true, true, true, true, true, true, true, true, true, false, false, false, true, false, false, false, false, false] rfl rfl (by kernel_rfl) (fun _ _ _ h => h) (Or.inl ⟨by rfl, ?_⟩) ?_ ?_
  rotate_left
  · intro w'
    go_simp
    with_reducible rfl
  rotate_left
  · simp only [Act.put, List.setIfInBounds_toArray, List.set_cons_zero, List.set_cons_succ, i64_w, i32_w]
    rfl
  refine take_ (i := 12) (N := some 58) (v := ?_) (a' := ?_) #[true, true, true, true, true, true, true, true, true, true, true, true, true, false, false, true, false, false, false, false, false] rfl rfl (by kernel_rfl) (fun _ _ _ h => h) (Or.inl ⟨by rfl, ?_⟩) hHeld ?_ ?_
  rotate_left
  · rintro w' ⟨s0, s1, s2, s3, s4, s5⟩
    go_simp
    with_reducible rfl
  rotate_left
  · simp only [Act.put, List.setIfInBounds_toArray, List.set_cons_zero, List.set_cons_succ, i64_w, i32_w]
    rfl
  refine take_ (i := 14) (N := some 60) (v := ?_) (a' := ?_) #[true, true, true, true, true, true, true, true, true, true, true, true, true, false, true, true, false, false, false, false, false] rfl rfl (by kernel_rfl) (fun _ _ _ h => h) (Or.inl ⟨by rfl, ?_⟩) hHeld ?_ ?_
  rotate_left
  · rintro w' ⟨s0, s1, s2, s3, s4, s5⟩
    go_simp
    with_reducible rfl
  rotate_left
  · simp only [Act.put, List.setIfInBounds_toArray, List.set_cons_zero, List.set_cons_succ, i64_w, i32_w]
    rfl
  refine take_ (i := 16) (N := some 62) (v := ?_) (a' := ?_) #[true, true, true, true, true, true, true, true, true, true, true, true, true, false, true, true, true, false, false, false, false] rfl rfl (by kernel_rfl) (fun _ _ _ h => h) (Or.inl ⟨by rfl, ?_⟩) hHeld ?_ ?_
  rotate_left
  · rintro w' ⟨s0, s1, s2, s3, s4, s5⟩
    go_simp
    with_reducible rfl
  rotate_left
  · simp only [Act.put, List.setIfInBounds_toArray, List.set_cons_zero, List.set_cons_succ, i64_w, i32_w]
    rfl
  refine one_ (i := 13) (N := some 59) #[true, true, true, true, true, true, true, true, true, true, true, true, true, true, true, true, true, false, false, false, false] rfl rfl (by kernel_rfl) (by decide) (fun K hK => ?_)
  refine goes_ Try.func56 (by kernel_rfl) rfl #[.pointer (some ⟨g, 0, none⟩), .agg #[.string ks, .int .u64 kn, .int .i64 kd]] (by rfl) rfl rfl (by simp only [List.map_toArray, List.map_cons, List.map_nil]; rfl) ?_
  with_reducible refine (HS2.out _ (below_step HB.out HDb.out)).mono ?_
  rintro e wc ⟨rfl, hb⟩
  refine ⟨_, rfl, ?_⟩
  have HDc := Aside0.mk (show Below w1.heap.size w1 wc from below_step HDb.out hb)
  clear hb
  refine hK.out _ _ ⟨pw_cell_below HDc.out k0, pw_cell_below HDc.out k1, pw_cell_below HDc.out k2, pw_cell_below HDc.out r0, pw_cell_below HDc.out r1, pw_cell_below HDc.out r2⟩ (fun hHeld => ?_)
  clear hK K
  refine norm_ (a' := ?_) ?_ ?_
  rotate_left
  · show Act.put _ (some 59) _ = _
    simp only [Act.put, List.setIfInBounds_toArray, List.set_cons_zero, List.set_cons_succ, i64_w, i32_w]
    rfl
  refine one_ (i := 17) (N := some 63) #[true, true, true, true, true, true, true, true, true, true, true, true, true, true, true, true, true, true, false, false, false] rfl rfl (by kernel_rfl) (by decide) (fun K hK => ?_)
  refine goes_ Try.func57 (by kernel_rfl) rfl #[.agg #[.int .i64 mo, .slice An nn cn, .slice Ao no co], .agg #[.string ks, .int .u64 kn, .int .i64 kd]] (by rfl) rfl rfl (by simp only [List.map_toArray, List.map_cons, List.map_nil]; rfl) ?_
  with_reducible refine (HR2.out _ (below_step HB.out HDc.out)).mono ?_
  rintro e wd ⟨rfl, hb⟩
  refine ⟨_, rfl, ?_⟩
  have HDd := Aside0.mk (show Below w1.heap.size w1 wd from below_step HDc.out hb)
  clear hb
  refine hK.out _ _ ⟨pw_cell_below HDd.out k0, pw_cell_below HDd.out k1, pw_cell_below HDd.out k2, pw_cell_below HDd.out r0, pw_cell_below HDd.out r1, pw_cell_below HDd.out r2⟩ (fun hHeld => ?_)
  clear hK K
  refine norm_ (a' := ?_) ?_ ?_
  rotate_left
  · show Act.put _ (some 63) _ = _
    simp only [Act.put, List.setIfInBounds_toArray, List.set_cons_zero, List.set_cons_succ, i64_w, i32_w]
    rfl
  refine pure_ (i := 18) (N := some 64) (v := ?_) (a' := ?_) #[true, true, true, true, true, true, true, true, true, true, true, true, true, true, true, true, true, true, true, false, false] rfl rfl (by kernel_rfl) (fun _ _ _ h => h) (Or.inl ⟨by rfl, ?_⟩) ?_ ?_
  rotate_left
  · intro w'
    go_simp
    with_reducible rfl
  rotate_left
  · simp only [Act.put, List.setIfInBounds_toArray, List.set_cons_zero, List.set_cons_succ, i64_w, i32_w]
    rfl
  refine pure_ (i := 19) (N := some 65) (v := ?_) (a' := ?_) #[true, true, true, true, true, true, true, true, true, true, true, true, true, true, true, true, true, true, true, true, false] rfl rfl (by kernel_rfl) (fun _ _ _ h => h) (Or.inl ⟨by rfl, ?_⟩) ?_ ?_
  rotate_left
  · intro w'
    go_simp
    with_reducible rfl
  rotate_left
  · simp only [Act.put, List.setIfInBounds_toArray, List.set_cons_zero, List.set_cons_succ, i64_w, i32_w]
    rfl
  refine pure_ (i := 20) (N := some 6) (v := ?_) (a' := ?_) #[true, true, true, true, true, true, true, true, true, true, true, true, true, true, true, true, true, true, true, true, true] rfl rfl (by kernel_rfl) (fun _ _ _ h => h) (Or.inl ⟨by rfl, ?_⟩) ?_ ?_
  rotate_left
  · intro w'
    go_simp
    with_reducible rfl
  rotate_left
  · simp only [Act.put, List.setIfInBounds_toArray, List.set_cons_zero, List.set_cons_succ, i64_w, i32_w]
    rfl
  refine done_ (by kernel_rfl) ?_
  have HB := Aside0.mk (below_step HB.out HDd.out)
  clear hHeld
  go_wp2
  go_ret
  exact ⟨by simp, HB.out⟩
set_option maxHeartbeats 16000000 in
set_option maxRecDepth 100000 in
theorem asked_3 (g base most : Nat) (S : SL ByteArray) (An : Option Addr) (cn : Nat) (Ao : Option Addr) (co : Nat) (mo kind height n : Int) (ks : ByteArray) (kn kd : Int) (v : ByteArray) (w : World) (h : SkAt w g base S most) (hCn : Kd.C k45 w An (nodesR id S).length (nodesR id S)) (hcn : (nodesR id S).length ≤ cn) (hCo : Kd.C (Kd.int .i64) w Ao (ordR S).length (ordR S)) (hco : (ordR S).length ≤ co) (hwf : wrap64 n = n) (hk : morainelaw08_among.f kind 8 = some 3) :
    Calls Try.prog 35 #[.pointer (some ⟨g, 0, none⟩), .agg #[.int .i64 mo, .slice An (nodesR id S).length cn, .slice Ao (ordR S).length co], .agg #[.int .i64 kind, .int .i64 height, .int .i64 n, .string ks, .int .u64 kn, .int .i64 kd, .string v]] w fun e w' => e = .returned (.bool true) ∧ Below w.heap.size w w' := by
  have hf := h.fine
  have hol := hf.1.len
  have hnl := nodesR_len id S
  have HNL := Aside0.mk hnl
  have HS1 := Aside0.mk (fun W (hb : Below w.heap.size w W) => ask_next g base most S n W (h.below hb))
  have HS2 := Aside0.mk (fun W (hb : Below w.heap.size w W) => ask_prev g base most S n W (h.below hb))
  have HR1 := Aside0.mk (fun W (hb : Below w.heap.size w W) => moraineref08_List_Next.calls 2097152 mo An cn (nodesR id S) Ao co (ordR S) n _ W (Kd.C_below hCn hb) hcn (Kd.C_below hCo hb) hco (rnext_eq id hf.1 hf.2.1 mo n hwf 2097152 (by omega)))
  have HR2 := Aside0.mk (fun W (hb : Below w.heap.size w W) => moraineref08_List_Prev.calls 2097152 mo An cn (nodesR id S) Ao co (ordR S) n _ W (Kd.C_below hCn hb) hcn (Kd.C_below hCo hb) hco (rprev_eq id hf.1 hf.2.1 mo n hwf 2097152 (by omega)))
  obtain ⟨nn, hnn⟩ : ∃ nn, (nodesR id S).length = nn := ⟨_, rfl⟩
  obtain ⟨no, hno⟩ : ∃ no, (ordR S).length = no := ⟨_, rfl⟩
  rw [hnn, hno]
  rw [hnn] at HNL
  rw [hnn, hno] at HR1 HR2
  obtain ⟨x1, hx1⟩ : ∃ x, besV S n 1 = x := ⟨_, rfl⟩
  rw [hx1] at HS1
  rw [hx1] at HR1
  clear hx1
  obtain ⟨x2, hx2⟩ : ∃ x, besV S n (-1) = x := ⟨_, rfl⟩
  rw [hx2] at HS2
  rw [hx2] at HR2
  clear hx2
  obtain ⟨W0, hW0⟩ : ∃ W0, (w.alloc (.cells #[.int .i64 mo, .slice An nn cn, .slice Ao no co] 30)).alloc (.cells #[.int .i64 kind, .int .i64 height, .int .i64 n, .string ks, .int .u64 kn, .int .i64 kd, .string v] 72) = W0 := ⟨_, rfl⟩
  have hx4 : W0.heap[w.heap.size]? = some (.cells #[.int .i64 mo, .slice An nn cn, .slice Ao no co] 30 (0, 0)) := by rw [← hW0]; exact (Below.heap_alloc _ _ _ (by rw [World.size_alloc]; omega)).trans (blk_new w _)
  have hx5 : W0.heap[w.heap.size + 1]? = some (.cells #[.int .i64 kind, .int .i64 height, .int .i64 n, .string ks, .int .u64 kn, .int .i64 kd, .string v] 72 (0, 0)) := by
    have := blk_new (w.alloc (.cells #[.int .i64 mo, .slice An nn cn, .slice Ao no co] 30)) (.cells #[.int .i64 kind, .int .i64 height, .int .i64 n, .string ks, .int .u64 kn, .int .i64 kd, .string v] 72)
    rw [World.size_alloc] at this
    rw [← hW0]; exact this
  have HB := Aside0.mk (show Below w.heap.size w W0 by rw [← hW0]; exact below_alloc (below_alloc (Below.refl _ _) _) _)
  have HX4 := Aside0.mk hx4
  have HX5 := Aside0.mk hx5
  have HW := Aside0.mk hW0
  have y0 := (blk_cell hx5 0).trans (show _ = some (.int .i64 kind) from rfl)
  rw [← hW0] at y0
  have HAM := Aside0.mk hk
  clear hk
  clear h hCn hcn hCo hco hf hol hnl hnn hno hW0 hx4 hx5 hwf 
  go_enter Try.func35, Try.ntmps35
  go_wp2_with fail
  rw [HW.out]
  (with_reducible refine (morainelaw08_among.calls kind 8 3 _ HAM.out).mono ?_)
  rintro e w1 ⟨rfl, hd⟩
  have HB := Aside0.mk (below_step HB.out hd.below)
  have HX4 := Aside0.mk (blk_below HX4.out hd.below)
  have HX5 := Aside0.mk (blk_below HX5.out hd.below)
  clear hd y0 HW HAM
  have k0 : w1.cell? ⟨w.heap.size + 1, 2, none⟩ = some (.int .i64 n) := (blk_cell HX5.out 2).trans rfl
  have r0 : w1.cell? ⟨w.heap.size, 0, none⟩ = some (.int .i64 mo) := (blk_cell HX4.out 0).trans rfl
  have r1 : w1.cell? ⟨w.heap.size, 1, none⟩ = some (.slice An nn cn) := (blk_cell HX4.out 1).trans rfl
  have r2 : w1.cell? ⟨w.heap.size, 2, none⟩ = some (.slice Ao no co) := (blk_cell HX4.out 2).trans rfl
  go_wp2_with fail
  refine start_ (n := 21) (S := fun w' => w'.cell? ⟨w.heap.size + 1, 2, none⟩ = some (.int .i64 n) ∧ w'.cell? ⟨w.heap.size, 0, none⟩ = some (.int .i64 mo) ∧ w'.cell? ⟨w.heap.size, 1, none⟩ = some (.slice An nn cn) ∧ w'.cell? ⟨w.heap.size, 2, none⟩ = some (.slice Ao no co)) (ds := []) #[false, false, false, false, false, false, false, false, false, false, false, false, false, false, false, false, false, false, false, false, false] (by kernel_rfl) rfl rfl ⟨k0, r0, r1, r2⟩ (fun hHeld => ?_)
  refine pure_ (i := 0) (N := some 68) (v := ?_) (a' := ?_) #[true, false, false, false, false, false, false, false, false, false, false, false, false, false, false, false, false, false, false, false, false] rfl rfl (by kernel_rfl) (fun _ _ _ h => h) (Or.inl ⟨by rfl, ?_⟩) ?_ ?_
  rotate_left
  · intro w'
    go_simp
    with_reducible rfl
  rotate_left
  · simp only [Act.put, List.setIfInBounds_toArray, List.set_cons_zero, List.set_cons_succ, i64_w, i32_w]
    rfl
  refine pure_ (i := 1) (N := some 69) (v := ?_) (a' := ?_) #[true, true, false, false, false, false, false, false, false, false, false, false, false, false, false, false, false, false, false, false, false] rfl rfl (by kernel_rfl) (fun _ _ _ h => h) (Or.inl ⟨by rfl, ?_⟩) ?_ ?_
  rotate_left
  · intro w'
    go_simp
    with_reducible rfl
  rotate_left
  · simp only [Act.put, List.setIfInBounds_toArray, List.set_cons_zero, List.set_cons_succ, i64_w, i32_w]
    rfl
  refine pure_ (i := 5) (N := some 73) (v := ?_) (a' := ?_) #[true, true, false, false, false, true, false, false, false, false, false, false, false, false, false, false, false, false, false, false, false] rfl rfl (by kernel_rfl) (fun _ _ _ h => h) (Or.inl ⟨by rfl, ?_⟩) ?_ ?_
  rotate_left
  · intro w'
    go_simp
    with_reducible rfl
  rotate_left
  · simp only [Act.put, List.setIfInBounds_toArray, List.set_cons_zero, List.set_cons_succ, i64_w, i32_w]
    rfl
  refine take_ (i := 2) (N := some 70) (v := ?_) (a' := ?_) #[true, true, true, false, false, true, false, false, false, false, false, false, false, false, false, false, false, false, false, false, false] rfl rfl (by kernel_rfl) (fun _ _ _ h => h) (Or.inl ⟨by rfl, ?_⟩) hHeld ?_ ?_
  rotate_left
  · rintro w' ⟨s0, s1, s2, s3⟩
    go_simp
    with_reducible rfl
  rotate_left
  · simp only [Act.put, List.setIfInBounds_toArray, List.set_cons_zero, List.set_cons_succ, i64_w, i32_w]
    rfl
  refine take_ (i := 4) (N := some 72) (v := ?_) (a' := ?_) #[true, true, true, false, true, true, false, false, false, false, false, false, false, false, false, false, false, false, false, false, false] rfl rfl (by kernel_rfl) (fun _ _ _ h => h) (Or.inl ⟨by rfl, ?_⟩) hHeld ?_ ?_
  rotate_left
  · rintro w' ⟨s0, s1, s2, s3⟩
    go_simp
    with_reducible rfl
  rotate_left
  · simp only [Act.put, List.setIfInBounds_toArray, List.set_cons_zero, List.set_cons_succ, i64_w, i32_w]
    rfl
  refine take_ (i := 6) (N := some 74) (v := ?_) (a' := ?_) #[true, true, true, false, true, true, true, false, false, false, false, false, false, false, false, false, false, false, false, false, false] rfl rfl (by kernel_rfl) (fun _ _ _ h => h) (Or.inl ⟨by rfl, ?_⟩) hHeld ?_ ?_
  rotate_left
  · rintro w' ⟨s0, s1, s2, s3⟩
    go_simp
    with_reducible rfl
  rotate_left
  · simp only [Act.put, List.setIfInBounds_toArray, List.set_cons_zero, List.set_cons_succ, i64_w, i32_w]
    rfl
  refine one_ (i := 3) (N := some 71) #[true, true, true, true, true, true, true, false, false, false, false, false, false, false, false, false, false, false, false, false, false] rfl rfl (by kernel_rfl) (by decide) (fun K hK => ?_)
  refine goes_ Try.func58 (by kernel_rfl) rfl #[.pointer (some ⟨g, 0, none⟩), .int .i64 n] (by rfl) rfl rfl (by simp only [List.map_toArray, List.map_cons, List.map_nil]; rfl) ?_
  with_reducible refine (HS1.out _ (below_step HB.out (below_drew1 (Below.refl _ _)))).mono ?_
  rintro e wa ⟨rfl, hb⟩
  refine ⟨_, rfl, ?_⟩
  have HDa := Aside0.mk (show Below w1.heap.size w1 wa from below_step (below_drew1 (Below.refl _ _)) hb)
  clear hb
  refine hK.out _ _ ⟨pw_cell_below HDa.out k0, pw_cell_below HDa.out r0, pw_cell_below HDa.out r1, pw_cell_below HDa.out r2⟩ (fun hHeld => ?_)
  clear hK K
  refine norm_ (a' := ?_) ?_ ?_
  rotate_left
  · show Act.put _ (some 71) _ = _
    simp only [Act.put, List.setIfInBounds_toArray, List.set_cons_zero, List.set_cons_succ, i64_w, i32_w]
    rfl
  refine one_ (i := 7) (N := some 75) #[true, true, true, true, true, true, true, true, false, false, false, false, false, false, false, false, false, false, false, false, false] rfl rfl (by kernel_rfl) (by decide) (fun K hK => ?_)
  refine goes_ Try.func59 (by kernel_rfl) rfl #[.agg #[.int .i64 mo, .slice An nn cn, .slice Ao no co], .int .i64 n] (by rfl) rfl rfl (by simp only [List.map_toArray, List.map_cons, List.map_nil]; rfl) ?_
  with_reducible refine (HR1.out _ (below_step HB.out HDa.out)).mono ?_
  rintro e wb ⟨rfl, hb⟩
  refine ⟨_, rfl, ?_⟩
  have HDb := Aside0.mk (show Below w1.heap.size w1 wb from below_step HDa.out hb)
  clear hb
  refine hK.out _ _ ⟨pw_cell_below HDb.out k0, pw_cell_below HDb.out r0, pw_cell_below HDb.out r1, pw_cell_below HDb.out r2⟩ (fun hHeld => ?_)
  clear hK K
  refine norm_ (a' := ?_) ?_ ?_
  rotate_left
  · show Act.put _ (some 75) _ = _
    simp only [Act.put, List.setIfInBounds_toArray, List.set_cons_zero, List.set_cons_succ, i64_w, i32_w]
    rfl
  refine pure_ (i := 8) (N := some 76) (v := ?_) (a' := ?_) #[true, true, true, true, true, true, true, true, true, false, false, false, false, false, false, false, false, false, false, false, false] rfl rfl (by kernel_rfl) (fun _ _ _ h => h) (Or.inl ⟨by rfl, ?_⟩) ?_ ?_
  rotate_left
  · intro w'
    go_simp
    with_reducible rfl
  rotate_left
  · simp only [Act.put, List.setIfInBounds_toArray, List.set_cons_zero, List.set_cons_succ, i64_w, i32_w]
    rfl
  refine pure_ (i := 9) (N := some 77) (v := ?_) (a' := ?_) #[true, true, true, true, true, true, true, true, true, true, false, false, false, false, false, false, false, false, false, false, false] rfl rfl (by kernel_rfl) (fun _ _ _ h => h) (Or.inl ⟨by rfl, ?_⟩) ?_ ?_
  rotate_left
  · intro w'
    go_simp
    with_reducible rfl
  rotate_left
  · simp only [Act.put, List.setIfInBounds_toArray, List.set_cons_zero, List.set_cons_succ, i64_w, i32_w]
    rfl
  refine pure_ (i := 10) (N := some 78) (v := ?_) (a' := ?_) #[true, true, true, true, true, true, true, true, true, true, true, false, false, false, false, false, false, false, false, false, false] rfl rfl (by kernel_rfl) (fun _ _ _ h => h) (Or.inl ⟨by rfl, ?_⟩) ?_ ?_
  rotate_left
  · intro w'
    go_simp
    with_reducible rfl
  rotate_left
  · simp only [Act.put, List.setIfInBounds_toArray, List.set_cons_zero, List.set_cons_succ, i64_w, i32_w]
    rfl
  refine pure_ (i := 11) (N := some 79) (v := ?_) (a' := ?_) #[true, true, true, true, true, true, true, true, true, true, true, true, false, false, false, false, false, false, false, false, false] rfl rfl (by kernel_rfl) (fun _ _ _ h => h) (Or.inl ⟨by rfl, ?_⟩) ?_ ?_
  rotate_left
  · intro w'
    go_simp
    with_reducible rfl
  rotate_left
  · simp only [Act.put, List.setIfInBounds_toArray, List.set_cons_zero, List.set_cons_succ, i64_w, i32_w]
    rfl
  refine pure_ (i := 15) (N := some 83) (v := ?_) (a' := ?_) #[true, true, true, true, true, true, true, true, true, true, true, true, false, false, false, true, false, false, false, false, false] rfl rfl (by kernel_rfl) (fun _ _ _ h => h) (Or.inl ⟨by rfl, ?_⟩) ?_ ?_
  rotate_left
  · intro w'
    go_simp
    with_reducible rfl
  rotate_left
  · simp only [Act.put, List.setIfInBounds_toArray, List.set_cons_zero, List.set_cons_succ, i64_w, i32_w]
    rfl
  refine take_ (i := 12) (N := some 80) (v := ?_) (a' := ?_) #[true, true, true, true, true, true, true, true, true, true, true, true, true, false, false, true, false, false, false, false, false] rfl rfl (by kernel_rfl) (fun _ _ _ h => h) (Or.inl ⟨by rfl, ?_⟩) hHeld ?_ ?_
  rotate_left
  · rintro w' ⟨s0, s1, s2, s3⟩
    go_simp
    with_reducible rfl
  rotate_left
  · simp only [Act.put, List.setIfInBounds_toArray, List.set_cons_zero, List.set_cons_succ, i64_w, i32_w]
    rfl
  refine take_ (i := 14) (N := some 82) (v := ?_) (a' := ?_) #[true, true, true, true, true, true, true, true, true, true, true, true, true, false, true, true, false, false, false, false, false] rfl rfl (by kernel_rfl) (fun _ _ _ h => h) (Or.inl ⟨by rfl, ?_⟩) hHeld ?_ ?_
  rotate_left
  · rintro w' ⟨s0, s1, s2, s3⟩
    go_simp
    with_reducible rfl
  rotate_left
  · simp only [Act.put, List.setIfInBounds_toArray, List.set_cons_zero, List.set_cons_succ, i64_w, i32_w]
    rfl
  refine take_ (i := 16) (N := some 84) (v := ?_) (a' := ?_) #[true, true, true, true, true, true, true, true, true, true, true, true, true, false, true, true, true, false, false, false, false] rfl rfl (by kernel_rfl) (fun _ _ _ h => h) (Or.inl ⟨by rfl, ?_⟩) hHeld ?_ ?_
  rotate_left
  · rintro w' ⟨s0, s1, s2, s3⟩
    go_simp
    with_reducible rfl
  rotate_left
  · simp only [Act.put, List.setIfInBounds_toArray, List.set_cons_zero, List.set_cons_succ, i64_w, i32_w]
    rfl
  refine one_ (i := 13) (N := some 81) #[true, true, true, true, true, true, true, true, true, true, true, true, true, true, true, true, true, false, false, false, false] rfl rfl (by kernel_rfl) (by decide) (fun K hK => ?_)
  refine goes_ Try.func60 (by kernel_rfl) rfl #[.pointer (some ⟨g, 0, none⟩), .int .i64 n] (by rfl) rfl rfl (by simp only [List.map_toArray, List.map_cons, List.map_nil]; rfl) ?_
  with_reducible refine (HS2.out _ (below_step HB.out HDb.out)).mono ?_
  rintro e wc ⟨rfl, hb⟩
  refine ⟨_, rfl, ?_⟩
  have HDc := Aside0.mk (show Below w1.heap.size w1 wc from below_step HDb.out hb)
  clear hb
  refine hK.out _ _ ⟨pw_cell_below HDc.out k0, pw_cell_below HDc.out r0, pw_cell_below HDc.out r1, pw_cell_below HDc.out r2⟩ (fun hHeld => ?_)
  clear hK K
  refine norm_ (a' := ?_) ?_ ?_
  rotate_left
  · show Act.put _ (some 81) _ = _
    simp only [Act.put, List.setIfInBounds_toArray, List.set_cons_zero, List.set_cons_succ, i64_w, i32_w]
    rfl
  refine one_ (i := 17) (N := some 85) #[true, true, true, true, true, true, true, true, true, true, true, true, true, true, true, true, true, true, false, false, false] rfl rfl (by kernel_rfl) (by decide) (fun K hK => ?_)
  refine goes_ Try.func61 (by kernel_rfl) rfl #[.agg #[.int .i64 mo, .slice An nn cn, .slice Ao no co], .int .i64 n] (by rfl) rfl rfl (by simp only [List.map_toArray, List.map_cons, List.map_nil]; rfl) ?_
  with_reducible refine (HR2.out _ (below_step HB.out HDc.out)).mono ?_
  rintro e wd ⟨rfl, hb⟩
  refine ⟨_, rfl, ?_⟩
  have HDd := Aside0.mk (show Below w1.heap.size w1 wd from below_step HDc.out hb)
  clear hb
  refine hK.out _ _ ⟨pw_cell_below HDd.out k0, pw_cell_below HDd.out r0, pw_cell_below HDd.out r1, pw_cell_below HDd.out r2⟩ (fun hHeld => ?_)
  clear hK K
  refine norm_ (a' := ?_) ?_ ?_
  rotate_left
  · show Act.put _ (some 85) _ = _
    simp only [Act.put, List.setIfInBounds_toArray, List.set_cons_zero, List.set_cons_succ, i64_w, i32_w]
    rfl
  refine pure_ (i := 18) (N := some 86) (v := ?_) (a' := ?_) #[true, true, true, true, true, true, true, true, true, true, true, true, true, true, true, true, true, true, true, false, false] rfl rfl (by kernel_rfl) (fun _ _ _ h => h) (Or.inl ⟨by rfl, ?_⟩) ?_ ?_
  rotate_left
  · intro w'
    go_simp
    with_reducible rfl
  rotate_left
  · simp only [Act.put, List.setIfInBounds_toArray, List.set_cons_zero, List.set_cons_succ, i64_w, i32_w]
    rfl
  refine pure_ (i := 19) (N := some 87) (v := ?_) (a' := ?_) #[true, true, true, true, true, true, true, true, true, true, true, true, true, true, true, true, true, true, true, true, false] rfl rfl (by kernel_rfl) (fun _ _ _ h => h) (Or.inl ⟨by rfl, ?_⟩) ?_ ?_
  rotate_left
  · intro w'
    go_simp
    with_reducible rfl
  rotate_left
  · simp only [Act.put, List.setIfInBounds_toArray, List.set_cons_zero, List.set_cons_succ, i64_w, i32_w]
    rfl
  refine pure_ (i := 20) (N := some 6) (v := ?_) (a' := ?_) #[true, true, true, true, true, true, true, true, true, true, true, true, true, true, true, true, true, true, true, true, true] rfl rfl (by kernel_rfl) (fun _ _ _ h => h) (Or.inl ⟨by rfl, ?_⟩) ?_ ?_
  rotate_left
  · intro w'
    go_simp
    with_reducible rfl
  rotate_left
  · simp only [Act.put, List.setIfInBounds_toArray, List.set_cons_zero, List.set_cons_succ, i64_w, i32_w]
    rfl
  refine done_ (by kernel_rfl) ?_
  have HB := Aside0.mk (below_step HB.out HDd.out)
  clear hHeld
  go_wp2
  go_ret
  exact ⟨by simp, HB.out⟩
set_option maxHeartbeats 16000000 in
set_option maxRecDepth 100000 in
theorem asked_1 (g base most : Nat) (S : SL ByteArray) (An : Option Addr) (cn : Nat) (Ao : Option Addr) (co : Nat) (mo kind height n : Int) (ks : ByteArray) (kn kd : Int) (v : ByteArray) (w : World) (h : SkAt w g base S most) (hCn : Kd.C k45 w An (nodesR id S).length (nodesR id S)) (hcn : (nodesR id S).length ≤ cn) (hCo : Kd.C (Kd.int .i64) w Ao (ordR S).length (ordR S)) (hco : (ordR S).length ≤ co) (hwf : wrap64 n = n) (hk : morainelaw08_among.f kind 8 = some 1) :
    Calls Try.prog 35 #[.pointer (some ⟨g, 0, none⟩), .agg #[.int .i64 mo, .slice An (nodesR id S).length cn, .slice Ao (ordR S).length co], .agg #[.int .i64 kind, .int .i64 height, .int .i64 n, .string ks, .int .u64 kn, .int .i64 kd, .string v]] w fun e w' => e = .returned (.bool true) ∧ Below w.heap.size w w' := by
  have hf := h.fine
  have hol := hf.1.len
  have hnl := nodesR_len id S
  have HNL := Aside0.mk hnl
  have HS1 := Aside0.mk (fun W (hb : Below w.heap.size w W) => ask_get g base most S (ks, kn, kd) W (h.below hb))
  have HR1 := Aside0.mk (fun W (hb : Below w.heap.size w W) => moraineref08_List_Get.calls 2097152 mo An cn (nodesR id S) Ao co (ordR S) ks kn kd (gv S (ks, kn, kd)).1 (gv S (ks, kn, kd)).2 W (Kd.C_below hCn hb) hcn (Kd.C_below hCo hb) hco ((rget_eq id hf.1 hf.2.1 mo (ks, kn, kd) 2097152 (by omega)).trans (by unfold gv; cases getV S (ks, kn, kd) <;> rfl)))
  obtain ⟨nn, hnn⟩ : ∃ nn, (nodesR id S).length = nn := ⟨_, rfl⟩
  obtain ⟨no, hno⟩ : ∃ no, (ordR S).length = no := ⟨_, rfl⟩
  rw [hnn, hno]
  rw [hnn] at HNL
  rw [hnn, hno] at HR1
  obtain ⟨⟨xv, xb⟩, hx1⟩ : ∃ x, gv S (ks, kn, kd) = x := ⟨_, rfl⟩
  rw [hx1] at HS1 HR1
  clear hx1
  obtain ⟨W0, hW0⟩ : ∃ W0, (w.alloc (.cells #[.int .i64 mo, .slice An nn cn, .slice Ao no co] 30)).alloc (.cells #[.int .i64 kind, .int .i64 height, .int .i64 n, .string ks, .int .u64 kn, .int .i64 kd, .string v] 72) = W0 := ⟨_, rfl⟩
  have hx4 : W0.heap[w.heap.size]? = some (.cells #[.int .i64 mo, .slice An nn cn, .slice Ao no co] 30 (0, 0)) := by rw [← hW0]; exact (Below.heap_alloc _ _ _ (by rw [World.size_alloc]; omega)).trans (blk_new w _)
  have hx5 : W0.heap[w.heap.size + 1]? = some (.cells #[.int .i64 kind, .int .i64 height, .int .i64 n, .string ks, .int .u64 kn, .int .i64 kd, .string v] 72 (0, 0)) := by
    have := blk_new (w.alloc (.cells #[.int .i64 mo, .slice An nn cn, .slice Ao no co] 30)) (.cells #[.int .i64 kind, .int .i64 height, .int .i64 n, .string ks, .int .u64 kn, .int .i64 kd, .string v] 72)
    rw [World.size_alloc] at this
    rw [← hW0]; exact this
  have HB := Aside0.mk (show Below w.heap.size w W0 by rw [← hW0]; exact below_alloc (below_alloc (Below.refl _ _) _) _)
  have HX4 := Aside0.mk hx4
  have HX5 := Aside0.mk hx5
  have HW := Aside0.mk hW0
  have y0 := (blk_cell hx5 0).trans (show _ = some (.int .i64 kind) from rfl)
  rw [← hW0] at y0
  have HAM := Aside0.mk hk
  clear hk
  clear h hCn hcn hCo hco hf hol hnl hnn hno hW0 hx4 hx5 hwf 
  go_enter Try.func35, Try.ntmps35
  go_wp2_with fail
  rw [HW.out]
  (with_reducible refine (morainelaw08_among.calls kind 8 1 _ HAM.out).mono ?_)
  rintro e w1 ⟨rfl, hd⟩
  have HB := Aside0.mk (below_step HB.out hd.below)
  have HX4 := Aside0.mk (blk_below HX4.out hd.below)
  have HX5 := Aside0.mk (blk_below HX5.out hd.below)
  clear hd y0 HW HAM
  have k0 : w1.cell? ⟨w.heap.size + 1, 3, none⟩ = some (.string ks) := (blk_cell HX5.out 3).trans rfl
  have k1 : w1.cell? ⟨w.heap.size + 1, 4, none⟩ = some (.int .u64 kn) := (blk_cell HX5.out 4).trans rfl
  have k2 : w1.cell? ⟨w.heap.size + 1, 5, none⟩ = some (.int .i64 kd) := (blk_cell HX5.out 5).trans rfl
  have r0 : w1.cell? ⟨w.heap.size, 0, none⟩ = some (.int .i64 mo) := (blk_cell HX4.out 0).trans rfl
  have r1 : w1.cell? ⟨w.heap.size, 1, none⟩ = some (.slice An nn cn) := (blk_cell HX4.out 1).trans rfl
  have r2 : w1.cell? ⟨w.heap.size, 2, none⟩ = some (.slice Ao no co) := (blk_cell HX4.out 2).trans rfl
  go_wp2_with fail
  (with_reducible refine (HS1.out _ HB.out).mono ?_)
  rintro e w2 ⟨rfl, hb⟩
  have HB := Aside0.mk (below_step HB.out hb)
  replace k0 := pw_cell_below hb k0
  replace k1 := pw_cell_below hb k1
  replace k2 := pw_cell_below hb k2
  replace r0 := pw_cell_below hb r0
  replace r1 := pw_cell_below hb r1
  replace r2 := pw_cell_below hb r2
  clear hb
  go_wp2_with fail
  (with_reducible refine (HR1.out _ HB.out).mono ?_)
  rintro e w3 ⟨rfl, hb⟩
  have HB := Aside0.mk (below_step HB.out hb)
  replace k0 := pw_cell_below hb k0
  replace k1 := pw_cell_below hb k1
  replace k2 := pw_cell_below hb k2
  replace r0 := pw_cell_below hb r0
  replace r1 := pw_cell_below hb r1
  replace r2 := pw_cell_below hb r2
  clear hb
  go_wp2
  go_ret
  exact ⟨by simp, HB.out⟩
set_option maxHeartbeats 16000000 in
set_option maxRecDepth 100000 in
theorem asked_4 (g base most : Nat) (S : SL ByteArray) (An : Option Addr) (cn : Nat) (Ao : Option Addr) (co : Nat) (mo kind height n : Int) (ks : ByteArray) (kn kd : Int) (v : ByteArray) (w : World) (h : SkAt w g base S most) (hCn : Kd.C k45 w An (nodesR id S).length (nodesR id S)) (hcn : (nodesR id S).length ≤ cn) (hCo : Kd.C (Kd.int .i64) w Ao (ordR S).length (ordR S)) (hco : (ordR S).length ≤ co) (hwf : wrap64 n = n) (hk : morainelaw08_among.f kind 8 = some 4) :
    Calls Try.prog 35 #[.pointer (some ⟨g, 0, none⟩), .agg #[.int .i64 mo, .slice An (nodesR id S).length cn, .slice Ao (ordR S).length co], .agg #[.int .i64 kind, .int .i64 height, .int .i64 n, .string ks, .int .u64 kn, .int .i64 kd, .string v]] w fun e w' => e = .returned (.bool true) ∧ Below w.heap.size w w' := by
  have hf := h.fine
  have hol := hf.1.len
  have hnl := nodesR_len id S
  have HNL := Aside0.mk hnl
  have HS1 := Aside0.mk (fun W (hb : Below w.heap.size w W) => ask_node g base most S n W (h.below hb))
  have HR1 := Aside0.mk (fun W (hb : Below w.heap.size w W) => moraineref08_List_Node.calls mo An cn (nodesR id S) Ao co (ordR S) n (nv S n).1 (nv S n).2.1 (nv S n).2.2.1 (nv S n).2.2.2.1 (nv S n).2.2.2.2 W (Kd.C_below hCn hb) hcn (Kd.C_below hCo hb) hco ((rnode_eq id mo n hf.2.1).trans (by unfold nv; cases nodeV S n <;> rfl)))
  obtain ⟨nn, hnn⟩ : ∃ nn, (nodesR id S).length = nn := ⟨_, rfl⟩
  obtain ⟨no, hno⟩ : ∃ no, (ordR S).length = no := ⟨_, rfl⟩
  rw [hnn, hno]
  rw [hnn] at HNL
  rw [hnn, hno] at HR1
  obtain ⟨⟨q0, q1, q2, qv, qb⟩, hx1⟩ : ∃ x, nv S n = x := ⟨_, rfl⟩
  rw [hx1] at HS1 HR1
  dsimp only at HS1 HR1
  clear hx1
  obtain ⟨W0, hW0⟩ : ∃ W0, (w.alloc (.cells #[.int .i64 mo, .slice An nn cn, .slice Ao no co] 30)).alloc (.cells #[.int .i64 kind, .int .i64 height, .int .i64 n, .string ks, .int .u64 kn, .int .i64 kd, .string v] 72) = W0 := ⟨_, rfl⟩
  have hx4 : W0.heap[w.heap.size]? = some (.cells #[.int .i64 mo, .slice An nn cn, .slice Ao no co] 30 (0, 0)) := by rw [← hW0]; exact (Below.heap_alloc _ _ _ (by rw [World.size_alloc]; omega)).trans (blk_new w _)
  have hx5 : W0.heap[w.heap.size + 1]? = some (.cells #[.int .i64 kind, .int .i64 height, .int .i64 n, .string ks, .int .u64 kn, .int .i64 kd, .string v] 72 (0, 0)) := by
    have := blk_new (w.alloc (.cells #[.int .i64 mo, .slice An nn cn, .slice Ao no co] 30)) (.cells #[.int .i64 kind, .int .i64 height, .int .i64 n, .string ks, .int .u64 kn, .int .i64 kd, .string v] 72)
    rw [World.size_alloc] at this
    rw [← hW0]; exact this
  have HB := Aside0.mk (show Below w.heap.size w W0 by rw [← hW0]; exact below_alloc (below_alloc (Below.refl _ _) _) _)
  have HX4 := Aside0.mk hx4
  have HX5 := Aside0.mk hx5
  have HW := Aside0.mk hW0
  have y0 := (blk_cell hx5 0).trans (show _ = some (.int .i64 kind) from rfl)
  rw [← hW0] at y0
  have HAM := Aside0.mk hk
  clear hk
  clear h hCn hcn hCo hco hf hol hnl hnn hno hW0 hx4 hx5 hwf 
  go_enter Try.func35, Try.ntmps35
  go_wp2_with fail
  rw [HW.out]
  (with_reducible refine (morainelaw08_among.calls kind 8 4 _ HAM.out).mono ?_)
  rintro e w1 ⟨rfl, hd⟩
  have HB := Aside0.mk (below_step HB.out hd.below)
  have HX4 := Aside0.mk (blk_below HX4.out hd.below)
  have HX5 := Aside0.mk (blk_below HX5.out hd.below)
  clear hd y0 HW HAM
  have k0 : w1.cell? ⟨w.heap.size + 1, 2, none⟩ = some (.int .i64 n) := (blk_cell HX5.out 2).trans rfl
  have r0 : w1.cell? ⟨w.heap.size, 0, none⟩ = some (.int .i64 mo) := (blk_cell HX4.out 0).trans rfl
  have r1 : w1.cell? ⟨w.heap.size, 1, none⟩ = some (.slice An nn cn) := (blk_cell HX4.out 1).trans rfl
  have r2 : w1.cell? ⟨w.heap.size, 2, none⟩ = some (.slice Ao no co) := (blk_cell HX4.out 2).trans rfl
  go_wp2_with fail
  (with_reducible refine (HS1.out _ HB.out).mono ?_)
  rintro e w2 ⟨rfl, hb⟩
  have HB := Aside0.mk (below_step HB.out hb)
  replace k0 := pw_cell_below hb k0
  replace r0 := pw_cell_below hb r0
  replace r1 := pw_cell_below hb r1
  replace r2 := pw_cell_below hb r2
  clear hb
  obtain ⟨W3, hW3⟩ : ∃ W3, w2.alloc (.cells #[.string q0, .int .u64 q1, .int .i64 q2] 37) = W3 := ⟨_, rfl⟩
  have hb3 : Below w2.heap.size w2 W3 := by rw [← hW3]; exact below_alloc (Below.refl _ _) _
  have HB := Aside0.mk (below_step HB.out hb3)
  have HXA := Aside0.mk (show W3.heap[w2.heap.size]? = some (.cells #[.string q0, .int .u64 q1, .int .i64 q2] 37 (0, 0)) by rw [← hW3]; exact blk_new w2 _)
  have HW3 := Aside0.mk hW3
  replace k0 := pw_cell_below hb3 k0
  rw [← hW3] at k0
  replace r0 := pw_cell_below hb3 r0
  rw [← hW3] at r0
  replace r1 := pw_cell_below hb3 r1
  rw [← hW3] at r1
  replace r2 := pw_cell_below hb3 r2
  rw [← hW3] at r2
  clear hW3 hb3
  obtain ⟨BA, hBA⟩ : ∃ b, w2.heap.size = b := ⟨_, rfl⟩
  have HBA := Aside0.mk hBA
  rw [hBA] at HXA
  clear hBA
  go_wp2_with fail
  rw [HW3.out, HBA.out]
  rw [HW3.out] at k0
  rw [HW3.out] at r0
  rw [HW3.out] at r1
  rw [HW3.out] at r2
  (with_reducible refine (HR1.out _ HB.out).mono ?_)
  rintro e w4 ⟨rfl, hb⟩
  have HB := Aside0.mk (below_step HB.out hb)
  replace k0 := pw_cell_below hb k0
  replace r0 := pw_cell_below hb r0
  replace r1 := pw_cell_below hb r1
  replace r2 := pw_cell_below hb r2
  have HXA := Aside0.mk (blk_below HXA.out hb)
  clear hb
  obtain ⟨W5, hW5⟩ : ∃ W5, w4.alloc (.cells #[.string q0, .int .u64 q1, .int .i64 q2] 37) = W5 := ⟨_, rfl⟩
  have hb5 : Below w4.heap.size w4 W5 := by rw [← hW5]; exact below_alloc (Below.refl _ _) _
  have HB := Aside0.mk (below_step HB.out hb5)
  have hxa := blk_below HXA.out hb5
  have hxb : W5.heap[w4.heap.size]? = some (.cells #[.string q0, .int .u64 q1, .int .i64 q2] 37 (0, 0)) := by rw [← hW5]; exact blk_new w4 _
  have a0 := (blk_cell hxa 0).trans (show _ = some (.string q0) from rfl)
  have a1 := (blk_cell hxa 1).trans (show _ = some (.int .u64 q1) from rfl)
  have a2 := (blk_cell hxa 2).trans (show _ = some (.int .i64 q2) from rfl)
  have b0 := (blk_cell hxb 0).trans (show _ = some (.string q0) from rfl)
  have b1 := (blk_cell hxb 1).trans (show _ = some (.int .u64 q1) from rfl)
  have b2 := (blk_cell hxb 2).trans (show _ = some (.int .i64 q2) from rfl)
  rw [← hW5] at a0 a1 a2 b0 b1 b2
  have HW5 := Aside0.mk hW5
  clear hxa hxb hb5 hW5
  go_wp2
  rw [HW5.out]
  go_ret
  exact ⟨by simp, HB.out⟩
set_option maxHeartbeats 16000000 in
set_option maxRecDepth 100000 in
theorem asked_5 (g base most : Nat) (S : SL ByteArray) (An : Option Addr) (cn : Nat) (Ao : Option Addr) (co : Nat) (mo kind height n : Int) (ks : ByteArray) (kn kd : Int) (v : ByteArray) (w : World) (h : SkAt w g base S most) (hCn : Kd.C k45 w An (nodesR id S).length (nodesR id S)) (hcn : (nodesR id S).length ≤ cn) (hCo : Kd.C (Kd.int .i64) w Ao (ordR S).length (ordR S)) (hco : (ordR S).length ≤ co) (hwf : wrap64 n = n) (hk : morainelaw08_among.f kind 8 = some 5) :
    Calls Try.prog 35 #[.pointer (some ⟨g, 0, none⟩), .agg #[.int .i64 mo, .slice An (nodesR id S).length cn, .slice Ao (ordR S).length co], .agg #[.int .i64 kind, .int .i64 height, .int .i64 n, .string ks, .int .u64 kn, .int .i64 kd, .string v]] w fun e w' => e = .returned (.bool true) ∧ Below w.heap.size w w' := by
  have hf := h.fine
  have hol := hf.1.len
  have hnl := nodesR_len id S
  have HNL := Aside0.mk hnl
  have HS1 := Aside0.mk (fun W (hb : Below w.heap.size w W) => sk_links g base most S n W (h.below hb))
  have HR1 := Aside0.mk (fun W (hb : Below w.heap.size w W) => moraineref08_List_Links.calls 2199023255552 mo An cn (nodesR id S) Ao co (ordR S) n _ W (Kd.C_below hCn hb) hcn (Kd.C_below hCo hb) hco (rlinks_eq id hf.1 hf.2.1 mo n 2199023255552 (by omega)))
  obtain ⟨nn, hnn⟩ : ∃ nn, (nodesR id S).length = nn := ⟨_, rfl⟩
  obtain ⟨no, hno⟩ : ∃ no, (ordR S).length = no := ⟨_, rfl⟩
  rw [hnn, hno]
  rw [hnn] at HNL
  rw [hnn, hno] at HR1
  have hll : (lvl S n).length ≤ 1048576 := by
    have h1 := lvls_len S n.toNat S.order
    unfold lvl
    split
    · simp
    · omega
  obtain ⟨LL, hLL⟩ : ∃ x, lvl S n = x := ⟨_, rfl⟩
  rw [hLL] at HS1 HR1 hll
  have HLL := Aside0.mk hll
  obtain ⟨ll, hl2⟩ : ∃ x, LL.length = x := ⟨_, rfl⟩
  have HL2 := Aside0.mk hl2
  clear hLL hll hl2
  obtain ⟨W0, hW0⟩ : ∃ W0, (w.alloc (.cells #[.int .i64 mo, .slice An nn cn, .slice Ao no co] 30)).alloc (.cells #[.int .i64 kind, .int .i64 height, .int .i64 n, .string ks, .int .u64 kn, .int .i64 kd, .string v] 72) = W0 := ⟨_, rfl⟩
  have hx4 : W0.heap[w.heap.size]? = some (.cells #[.int .i64 mo, .slice An nn cn, .slice Ao no co] 30 (0, 0)) := by rw [← hW0]; exact (Below.heap_alloc _ _ _ (by rw [World.size_alloc]; omega)).trans (blk_new w _)
  have hx5 : W0.heap[w.heap.size + 1]? = some (.cells #[.int .i64 kind, .int .i64 height, .int .i64 n, .string ks, .int .u64 kn, .int .i64 kd, .string v] 72 (0, 0)) := by
    have := blk_new (w.alloc (.cells #[.int .i64 mo, .slice An nn cn, .slice Ao no co] 30)) (.cells #[.int .i64 kind, .int .i64 height, .int .i64 n, .string ks, .int .u64 kn, .int .i64 kd, .string v] 72)
    rw [World.size_alloc] at this
    rw [← hW0]; exact this
  have HB := Aside0.mk (show Below w.heap.size w W0 by rw [← hW0]; exact below_alloc (below_alloc (Below.refl _ _) _) _)
  have HX4 := Aside0.mk hx4
  have HX5 := Aside0.mk hx5
  have HW := Aside0.mk hW0
  have y0 := (blk_cell hx5 0).trans (show _ = some (.int .i64 kind) from rfl)
  rw [← hW0] at y0
  have HAM := Aside0.mk hk
  clear hk
  clear h hCn hcn hCo hco hf hol hnl hnn hno hW0 hx4 hx5 hwf 
  go_enter Try.func35, Try.ntmps35
  go_wp2_with fail
  rw [HW.out]
  (with_reducible refine (morainelaw08_among.calls kind 8 5 _ HAM.out).mono ?_)
  rintro e w1 ⟨rfl, hd⟩
  have HB := Aside0.mk (below_step HB.out hd.below)
  have HX4 := Aside0.mk (blk_below HX4.out hd.below)
  have HX5 := Aside0.mk (blk_below HX5.out hd.below)
  clear hd y0 HW HAM
  have k0 : w1.cell? ⟨w.heap.size + 1, 2, none⟩ = some (.int .i64 n) := (blk_cell HX5.out 2).trans rfl
  have r0 : w1.cell? ⟨w.heap.size, 0, none⟩ = some (.int .i64 mo) := (blk_cell HX4.out 0).trans rfl
  have r1 : w1.cell? ⟨w.heap.size, 1, none⟩ = some (.slice An nn cn) := (blk_cell HX4.out 1).trans rfl
  have r2 : w1.cell? ⟨w.heap.size, 2, none⟩ = some (.slice Ao no co) := (blk_cell HX4.out 2).trans rfl
  go_wp2_with fail
  refine start_ (n := 10) (S := fun w' => w'.cell? ⟨w.heap.size + 1, 2, none⟩ = some (.int .i64 n) ∧ w'.cell? ⟨w.heap.size, 0, none⟩ = some (.int .i64 mo) ∧ w'.cell? ⟨w.heap.size, 1, none⟩ = some (.slice An nn cn) ∧ w'.cell? ⟨w.heap.size, 2, none⟩ = some (.slice Ao no co)) (ds := []) #[false, false, false, false, false, false, false, false, false, false] (by kernel_rfl) rfl rfl ⟨k0, r0, r1, r2⟩ (fun hHeld => ?_)
  refine pure_ (i := 0) (N := some 121) (v := ?_) (a' := ?_) #[true, false, false, false, false, false, false, false, false, false] rfl rfl (by kernel_rfl) (fun _ _ _ h => h) (Or.inl ⟨by rfl, ?_⟩) ?_ ?_
  rotate_left
  · intro w'
    go_simp
    with_reducible rfl
  rotate_left
  · simp only [Act.put, List.setIfInBounds_toArray, List.set_cons_zero, List.set_cons_succ, i64_w, i32_w]
    rfl
  refine pure_ (i := 1) (N := some 122) (v := ?_) (a' := ?_) #[true, true, false, false, false, false, false, false, false, false] rfl rfl (by kernel_rfl) (fun _ _ _ h => h) (Or.inl ⟨by rfl, ?_⟩) ?_ ?_
  rotate_left
  · intro w'
    go_simp
    with_reducible rfl
  rotate_left
  · simp only [Act.put, List.setIfInBounds_toArray, List.set_cons_zero, List.set_cons_succ, i64_w, i32_w]
    rfl
  refine pure_ (i := 5) (N := some 126) (v := ?_) (a' := ?_) #[true, true, false, false, false, true, false, false, false, false] rfl rfl (by kernel_rfl) (fun _ _ _ h => h) (Or.inl ⟨by rfl, ?_⟩) ?_ ?_
  rotate_left
  · intro w'
    go_simp
    with_reducible rfl
  rotate_left
  · simp only [Act.put, List.setIfInBounds_toArray, List.set_cons_zero, List.set_cons_succ, i64_w, i32_w]
    rfl
  refine take_ (i := 2) (N := some 123) (v := ?_) (a' := ?_) #[true, true, true, false, false, true, false, false, false, false] rfl rfl (by kernel_rfl) (fun _ _ _ h => h) (Or.inl ⟨by rfl, ?_⟩) hHeld ?_ ?_
  rotate_left
  · rintro w' ⟨s0, s1, s2, s3⟩
    go_simp
    with_reducible rfl
  rotate_left
  · simp only [Act.put, List.setIfInBounds_toArray, List.set_cons_zero, List.set_cons_succ, i64_w, i32_w]
    rfl
  refine take_ (i := 4) (N := some 125) (v := ?_) (a' := ?_) #[true, true, true, false, true, true, false, false, false, false] rfl rfl (by kernel_rfl) (fun _ _ _ h => h) (Or.inl ⟨by rfl, ?_⟩) hHeld ?_ ?_
  rotate_left
  · rintro w' ⟨s0, s1, s2, s3⟩
    go_simp
    with_reducible rfl
  rotate_left
  · simp only [Act.put, List.setIfInBounds_toArray, List.set_cons_zero, List.set_cons_succ, i64_w, i32_w]
    rfl
  refine take_ (i := 6) (N := some 127) (v := ?_) (a' := ?_) #[true, true, true, false, true, true, true, false, false, false] rfl rfl (by kernel_rfl) (fun _ _ _ h => h) (Or.inl ⟨by rfl, ?_⟩) hHeld ?_ ?_
  rotate_left
  · rintro w' ⟨s0, s1, s2, s3⟩
    go_simp
    with_reducible rfl
  rotate_left
  · simp only [Act.put, List.setIfInBounds_toArray, List.set_cons_zero, List.set_cons_succ, i64_w, i32_w]
    rfl
  refine one_ (i := 3) (N := some 124) #[true, true, true, true, true, true, true, false, false, false] rfl rfl (by kernel_rfl) (by decide) (fun K hK => ?_)
  refine goes_ Try.func64 (by kernel_rfl) rfl #[.pointer (some ⟨g, 0, none⟩), .int .i64 n] (by rfl) rfl rfl (by simp only [List.map_toArray, List.map_cons, List.map_nil]; rfl) ?_
  with_reducible refine (HS1.out _ (below_step HB.out (below_drew1 (Below.refl _ _)))).mono ?_
  rintro e wa ⟨v1, rfl, hr1, hb⟩
  refine ⟨_, rfl, ?_⟩
  have HDa := Aside0.mk (show Below w1.heap.size w1 wa from below_step (below_drew1 (Below.refl _ _)) hb)
  obtain ⟨A1, c1, rfl, hc1, hC1⟩ := Kd.R_reads hr1
  have HC1 := Aside0.mk hC1
  have HK1 := Aside0.mk hc1
  rw [HL2.out]
  clear hr1 hC1 hc1
  clear hb
  refine hK.out _ _ ⟨pw_cell_below HDa.out k0, pw_cell_below HDa.out r0, pw_cell_below HDa.out r1, pw_cell_below HDa.out r2⟩ (fun hHeld => ?_)
  clear hK K
  refine norm_ (a' := ?_) ?_ ?_
  rotate_left
  · show Act.put _ (some 124) _ = _
    simp only [Act.put, List.setIfInBounds_toArray, List.set_cons_zero, List.set_cons_succ, i64_w, i32_w]
    rfl
  refine one_ (i := 7) (N := some 128) #[true, true, true, true, true, true, true, true, false, false] rfl rfl (by kernel_rfl) (by decide) (fun K hK => ?_)
  refine goes_ Try.func65 (by kernel_rfl) rfl #[.agg #[.int .i64 mo, .slice An nn cn, .slice Ao no co], .int .i64 n] (by rfl) rfl rfl (by simp only [List.map_toArray, List.map_cons, List.map_nil]; rfl) ?_
  with_reducible refine (HR1.out _ (below_step HB.out HDa.out)).mono ?_
  rintro e wb ⟨v2, rfl, hr2, hb⟩
  refine ⟨_, rfl, ?_⟩
  have HDb := Aside0.mk (show Below w1.heap.size w1 wb from below_step HDa.out hb)
  obtain ⟨A2, c2, rfl, hc2, hC2⟩ := Kd.R_reads hr2
  have HC1 := Aside0.mk (Kd.C_below HC1.out hb)
  have HC2 := Aside0.mk hC2
  have HK2 := Aside0.mk hc2
  rw [HL2.out]
  clear hr2 hC2 hc2
  clear hb
  refine hK.out _ _ ⟨pw_cell_below HDb.out k0, pw_cell_below HDb.out r0, pw_cell_below HDb.out r1, pw_cell_below HDb.out r2⟩ (fun hHeld => ?_)
  clear hK K
  refine norm_ (a' := ?_) ?_ ?_
  rotate_left
  · show Act.put _ (some 128) _ = _
    simp only [Act.put, List.setIfInBounds_toArray, List.set_cons_zero, List.set_cons_succ, i64_w, i32_w]
    rfl
  refine one_ (i := 8) (N := some 129) #[true, true, true, true, true, true, true, true, true, false] rfl rfl (by kernel_rfl) (by decide) (fun K hK => ?_)
  refine goes_ Try.func20 (by kernel_rfl) rfl #[.slice A1 ll c1, .slice A2 ll c2] (by rfl) rfl rfl (by simp only [List.map_toArray, List.map_cons, List.map_nil]; rfl) ?_
  with_reducible refine (ints_rows HC1.out HC2.out HK1.out HK2.out (by have := HLL.out; omega) HL2.out.symm HL2.out.symm).mono ?_
  rintro e wc ⟨rfl, hb⟩
  refine ⟨_, rfl, ?_⟩
  have HDc := Aside0.mk (show Below w1.heap.size w1 wc from below_step HDb.out hb)
  clear hb
  refine hK.out _ _ ⟨pw_cell_below HDc.out k0, pw_cell_below HDc.out r0, pw_cell_below HDc.out r1, pw_cell_below HDc.out r2⟩ (fun hHeld => ?_)
  clear hK K
  refine norm_ (a' := ?_) ?_ ?_
  rotate_left
  · show Act.put _ (some 129) _ = _
    simp only [Act.put, List.setIfInBounds_toArray, List.set_cons_zero, List.set_cons_succ, i64_w, i32_w]
    rfl
  refine pure_ (i := 9) (N := some 6) (v := ?_) (a' := ?_) #[true, true, true, true, true, true, true, true, true, true] rfl rfl (by kernel_rfl) (fun _ _ _ h => h) (Or.inl ⟨by rfl, ?_⟩) ?_ ?_
  rotate_left
  · intro w'
    go_simp
    with_reducible rfl
  rotate_left
  · simp only [Act.put, List.setIfInBounds_toArray, List.set_cons_zero, List.set_cons_succ, i64_w, i32_w]
    rfl
  refine done_ (by kernel_rfl) ?_
  have HB := Aside0.mk (below_step HB.out HDc.out)
  clear hHeld
  go_wp2
  go_ret
  exact ⟨by simp, HB.out⟩
set_option maxHeartbeats 16000000 in
set_option maxRecDepth 100000 in
theorem asked_6 (g base most : Nat) (S : SL ByteArray) (An : Option Addr) (cn : Nat) (Ao : Option Addr) (co : Nat) (mo kind height n : Int) (ks : ByteArray) (kn kd : Int) (v : ByteArray) (w : World) (h : SkAt w g base S most) (hCn : Kd.C k45 w An (nodesR id S).length (nodesR id S)) (hcn : (nodesR id S).length ≤ cn) (hCo : Kd.C (Kd.int .i64) w Ao (ordR S).length (ordR S)) (hco : (ordR S).length ≤ co) (hwf : wrap64 n = n) (hk : morainelaw08_among.f kind 8 = some 6) :
    Calls Try.prog 35 #[.pointer (some ⟨g, 0, none⟩), .agg #[.int .i64 mo, .slice An (nodesR id S).length cn, .slice Ao (ordR S).length co], .agg #[.int .i64 kind, .int .i64 height, .int .i64 n, .string ks, .int .u64 kn, .int .i64 kd, .string v]] w fun e w' => e = .returned (.bool true) ∧ Below w.heap.size w w' := by
  have hf := h.fine
  have hol := hf.1.len
  have hnl := nodesR_len id S
  have HNL := Aside0.mk hnl
  have HS1 := Aside0.mk (fun W (hb : Below w.heap.size w W) => sk_trailL g base most S (ks, kn, kd) W (h.below hb))
  have HR1 := Aside0.mk (fun W (hb : Below w.heap.size w W) => moraineref08_List_Trail.calls 16777216 mo An cn (nodesR id S) Ao co (ordR S) ks kn kd _ W (Kd.C_below hCn hb) hcn (Kd.C_below hCo hb) hco (rtrail_eq id hf.1 hf.2.1 mo (ks, kn, kd) 16777216 (Nat.le_refl _)))
  obtain ⟨nn, hnn⟩ : ∃ nn, (nodesR id S).length = nn := ⟨_, rfl⟩
  obtain ⟨no, hno⟩ : ∃ no, (ordR S).length = no := ⟨_, rfl⟩
  rw [hnn, hno]
  rw [hnn] at HNL
  rw [hnn, hno] at HR1
  have hll : (trt S (ks, kn, kd) 0 S.height).length ≤ 1048576 := by
    rw [trt_len]; have := SL.height_le hf.1; omega
  obtain ⟨LL, hLL⟩ : ∃ x, trt S (ks, kn, kd) 0 S.height = x := ⟨_, rfl⟩
  rw [hLL] at HS1 HR1 hll
  have HLL := Aside0.mk hll
  obtain ⟨ll, hl2⟩ : ∃ x, LL.length = x := ⟨_, rfl⟩
  have HL2 := Aside0.mk hl2
  clear hLL hll hl2
  obtain ⟨W0, hW0⟩ : ∃ W0, (w.alloc (.cells #[.int .i64 mo, .slice An nn cn, .slice Ao no co] 30)).alloc (.cells #[.int .i64 kind, .int .i64 height, .int .i64 n, .string ks, .int .u64 kn, .int .i64 kd, .string v] 72) = W0 := ⟨_, rfl⟩
  have hx4 : W0.heap[w.heap.size]? = some (.cells #[.int .i64 mo, .slice An nn cn, .slice Ao no co] 30 (0, 0)) := by rw [← hW0]; exact (Below.heap_alloc _ _ _ (by rw [World.size_alloc]; omega)).trans (blk_new w _)
  have hx5 : W0.heap[w.heap.size + 1]? = some (.cells #[.int .i64 kind, .int .i64 height, .int .i64 n, .string ks, .int .u64 kn, .int .i64 kd, .string v] 72 (0, 0)) := by
    have := blk_new (w.alloc (.cells #[.int .i64 mo, .slice An nn cn, .slice Ao no co] 30)) (.cells #[.int .i64 kind, .int .i64 height, .int .i64 n, .string ks, .int .u64 kn, .int .i64 kd, .string v] 72)
    rw [World.size_alloc] at this
    rw [← hW0]; exact this
  have HB := Aside0.mk (show Below w.heap.size w W0 by rw [← hW0]; exact below_alloc (below_alloc (Below.refl _ _) _) _)
  have HX4 := Aside0.mk hx4
  have HX5 := Aside0.mk hx5
  have HW := Aside0.mk hW0
  have y0 := (blk_cell hx5 0).trans (show _ = some (.int .i64 kind) from rfl)
  rw [← hW0] at y0
  have HAM := Aside0.mk hk
  clear hk
  clear h hCn hcn hCo hco hf hol hnl hnn hno hW0 hx4 hx5 hwf 
  go_enter Try.func35, Try.ntmps35
  go_wp2_with fail
  rw [HW.out]
  (with_reducible refine (morainelaw08_among.calls kind 8 6 _ HAM.out).mono ?_)
  rintro e w1 ⟨rfl, hd⟩
  have HB := Aside0.mk (below_step HB.out hd.below)
  have HX4 := Aside0.mk (blk_below HX4.out hd.below)
  have HX5 := Aside0.mk (blk_below HX5.out hd.below)
  clear hd y0 HW HAM
  have k0 : w1.cell? ⟨w.heap.size + 1, 3, none⟩ = some (.string ks) := (blk_cell HX5.out 3).trans rfl
  have k1 : w1.cell? ⟨w.heap.size + 1, 4, none⟩ = some (.int .u64 kn) := (blk_cell HX5.out 4).trans rfl
  have k2 : w1.cell? ⟨w.heap.size + 1, 5, none⟩ = some (.int .i64 kd) := (blk_cell HX5.out 5).trans rfl
  have r0 : w1.cell? ⟨w.heap.size, 0, none⟩ = some (.int .i64 mo) := (blk_cell HX4.out 0).trans rfl
  have r1 : w1.cell? ⟨w.heap.size, 1, none⟩ = some (.slice An nn cn) := (blk_cell HX4.out 1).trans rfl
  have r2 : w1.cell? ⟨w.heap.size, 2, none⟩ = some (.slice Ao no co) := (blk_cell HX4.out 2).trans rfl
  go_wp2_with fail
  refine start_ (n := 10) (S := fun w' => w'.cell? ⟨w.heap.size + 1, 3, none⟩ = some (.string ks) ∧ w'.cell? ⟨w.heap.size + 1, 4, none⟩ = some (.int .u64 kn) ∧ w'.cell? ⟨w.heap.size + 1, 5, none⟩ = some (.int .i64 kd) ∧ w'.cell? ⟨w.heap.size, 0, none⟩ = some (.int .i64 mo) ∧ w'.cell? ⟨w.heap.size, 1, none⟩ = some (.slice An nn cn) ∧ w'.cell? ⟨w.heap.size, 2, none⟩ = some (.slice Ao no co)) (ds := []) #[false, false, false, false, false, false, false, false, false, false] (by kernel_rfl) rfl rfl ⟨k0, k1, k2, r0, r1, r2⟩ (fun hHeld => ?_)
  refine pure_ (i := 0) (N := some 132) (v := ?_) (a' := ?_) #[true, false, false, false, false, false, false, false, false, false] rfl rfl (by kernel_rfl) (fun _ _ _ h => h) (Or.inl ⟨by rfl, ?_⟩) ?_ ?_
  rotate_left
  · intro w'
    go_simp
    with_reducible rfl
  rotate_left
  · simp only [Act.put, List.setIfInBounds_toArray, List.set_cons_zero, List.set_cons_succ, i64_w, i32_w]
    rfl
  refine pure_ (i := 1) (N := some 133) (v := ?_) (a' := ?_) #[true, true, false, false, false, false, false, false, false, false] rfl rfl (by kernel_rfl) (fun _ _ _ h => h) (Or.inl ⟨by rfl, ?_⟩) ?_ ?_
  rotate_left
  · intro w'
    go_simp
    with_reducible rfl
  rotate_left
  · simp only [Act.put, List.setIfInBounds_toArray, List.set_cons_zero, List.set_cons_succ, i64_w, i32_w]
    rfl
  refine pure_ (i := 5) (N := some 137) (v := ?_) (a' := ?_) #[true, true, false, false, false, true, false, false, false, false] rfl rfl (by kernel_rfl) (fun _ _ _ h => h) (Or.inl ⟨by rfl, ?_⟩) ?_ ?_
  rotate_left
  · intro w'
    go_simp
    with_reducible rfl
  rotate_left
  · simp only [Act.put, List.setIfInBounds_toArray, List.set_cons_zero, List.set_cons_succ, i64_w, i32_w]
    rfl
  refine take_ (i := 2) (N := some 134) (v := ?_) (a' := ?_) #[true, true, true, false, false, true, false, false, false, false] rfl rfl (by kernel_rfl) (fun _ _ _ h => h) (Or.inl ⟨by rfl, ?_⟩) hHeld ?_ ?_
  rotate_left
  · rintro w' ⟨s0, s1, s2, s3, s4, s5⟩
    go_simp
    with_reducible rfl
  rotate_left
  · simp only [Act.put, List.setIfInBounds_toArray, List.set_cons_zero, List.set_cons_succ, i64_w, i32_w]
    rfl
  refine take_ (i := 4) (N := some 136) (v := ?_) (a' := ?_) #[true, true, true, false, true, true, false, false, false, false] rfl rfl (by kernel_rfl) (fun _ _ _ h => h) (Or.inl ⟨by rfl, ?_⟩) hHeld ?_ ?_
  rotate_left
  · rintro w' ⟨s0, s1, s2, s3, s4, s5⟩
    go_simp
    with_reducible rfl
  rotate_left
  · simp only [Act.put, List.setIfInBounds_toArray, List.set_cons_zero, List.set_cons_succ, i64_w, i32_w]
    rfl
  refine take_ (i := 6) (N := some 138) (v := ?_) (a' := ?_) #[true, true, true, false, true, true, true, false, false, false] rfl rfl (by kernel_rfl) (fun _ _ _ h => h) (Or.inl ⟨by rfl, ?_⟩) hHeld ?_ ?_
  rotate_left
  · rintro w' ⟨s0, s1, s2, s3, s4, s5⟩
    go_simp
    with_reducible rfl
  rotate_left
  · simp only [Act.put, List.setIfInBounds_toArray, List.set_cons_zero, List.set_cons_succ, i64_w, i32_w]
    rfl
  refine one_ (i := 3) (N := some 135) #[true, true, true, true, true, true, true, false, false, false] rfl rfl (by kernel_rfl) (by decide) (fun K hK => ?_)
  refine goes_ Try.func66 (by kernel_rfl) rfl #[.pointer (some ⟨g, 0, none⟩), .agg #[.string ks, .int .u64 kn, .int .i64 kd]] (by rfl) rfl rfl (by simp only [List.map_toArray, List.map_cons, List.map_nil]; rfl) ?_
  with_reducible refine (HS1.out _ (below_step HB.out (below_drew1 (Below.refl _ _)))).mono ?_
  rintro e wa ⟨v1, rfl, hr1, hb⟩
  refine ⟨_, rfl, ?_⟩
  have HDa := Aside0.mk (show Below w1.heap.size w1 wa from below_step (below_drew1 (Below.refl _ _)) hb)
  obtain ⟨A1, c1, rfl, hc1, hC1⟩ := Kd.R_reads hr1
  have HC1 := Aside0.mk hC1
  have HK1 := Aside0.mk hc1
  rw [HL2.out]
  clear hr1 hC1 hc1
  clear hb
  refine hK.out _ _ ⟨pw_cell_below HDa.out k0, pw_cell_below HDa.out k1, pw_cell_below HDa.out k2, pw_cell_below HDa.out r0, pw_cell_below HDa.out r1, pw_cell_below HDa.out r2⟩ (fun hHeld => ?_)
  clear hK K
  refine norm_ (a' := ?_) ?_ ?_
  rotate_left
  · show Act.put _ (some 135) _ = _
    simp only [Act.put, List.setIfInBounds_toArray, List.set_cons_zero, List.set_cons_succ, i64_w, i32_w]
    rfl
  refine one_ (i := 7) (N := some 139) #[true, true, true, true, true, true, true, true, false, false] rfl rfl (by kernel_rfl) (by decide) (fun K hK => ?_)
  refine goes_ Try.func67 (by kernel_rfl) rfl #[.agg #[.int .i64 mo, .slice An nn cn, .slice Ao no co], .agg #[.string ks, .int .u64 kn, .int .i64 kd]] (by rfl) rfl rfl (by simp only [List.map_toArray, List.map_cons, List.map_nil]; rfl) ?_
  with_reducible refine (HR1.out _ (below_step HB.out HDa.out)).mono ?_
  rintro e wb ⟨v2, rfl, hr2, hb⟩
  refine ⟨_, rfl, ?_⟩
  have HDb := Aside0.mk (show Below w1.heap.size w1 wb from below_step HDa.out hb)
  obtain ⟨A2, c2, rfl, hc2, hC2⟩ := Kd.R_reads hr2
  have HC1 := Aside0.mk (Kd.C_below HC1.out hb)
  have HC2 := Aside0.mk hC2
  have HK2 := Aside0.mk hc2
  rw [HL2.out]
  clear hr2 hC2 hc2
  clear hb
  refine hK.out _ _ ⟨pw_cell_below HDb.out k0, pw_cell_below HDb.out k1, pw_cell_below HDb.out k2, pw_cell_below HDb.out r0, pw_cell_below HDb.out r1, pw_cell_below HDb.out r2⟩ (fun hHeld => ?_)
  clear hK K
  refine norm_ (a' := ?_) ?_ ?_
  rotate_left
  · show Act.put _ (some 139) _ = _
    simp only [Act.put, List.setIfInBounds_toArray, List.set_cons_zero, List.set_cons_succ, i64_w, i32_w]
    rfl
  refine one_ (i := 8) (N := some 140) #[true, true, true, true, true, true, true, true, true, false] rfl rfl (by kernel_rfl) (by decide) (fun K hK => ?_)
  refine goes_ Try.func20 (by kernel_rfl) rfl #[.slice A1 ll c1, .slice A2 ll c2] (by rfl) rfl rfl (by simp only [List.map_toArray, List.map_cons, List.map_nil]; rfl) ?_
  with_reducible refine (ints_rows HC1.out HC2.out HK1.out HK2.out (by have := HLL.out; omega) HL2.out.symm HL2.out.symm).mono ?_
  rintro e wc ⟨rfl, hb⟩
  refine ⟨_, rfl, ?_⟩
  have HDc := Aside0.mk (show Below w1.heap.size w1 wc from below_step HDb.out hb)
  clear hb
  refine hK.out _ _ ⟨pw_cell_below HDc.out k0, pw_cell_below HDc.out k1, pw_cell_below HDc.out k2, pw_cell_below HDc.out r0, pw_cell_below HDc.out r1, pw_cell_below HDc.out r2⟩ (fun hHeld => ?_)
  clear hK K
  refine norm_ (a' := ?_) ?_ ?_
  rotate_left
  · show Act.put _ (some 140) _ = _
    simp only [Act.put, List.setIfInBounds_toArray, List.set_cons_zero, List.set_cons_succ, i64_w, i32_w]
    rfl
  refine pure_ (i := 9) (N := some 6) (v := ?_) (a' := ?_) #[true, true, true, true, true, true, true, true, true, true] rfl rfl (by kernel_rfl) (fun _ _ _ h => h) (Or.inl ⟨by rfl, ?_⟩) ?_ ?_
  rotate_left
  · intro w'
    go_simp
    with_reducible rfl
  rotate_left
  · simp only [Act.put, List.setIfInBounds_toArray, List.set_cons_zero, List.set_cons_succ, i64_w, i32_w]
    rfl
  refine done_ (by kernel_rfl) ?_
  have HB := Aside0.mk (below_step HB.out HDc.out)
  clear hHeld
  go_wp2
  go_ret
  exact ⟨by simp, HB.out⟩
set_option maxHeartbeats 16000000 in
set_option maxRecDepth 100000 in
theorem asked_7 (g base most : Nat) (S : SL ByteArray) (An : Option Addr) (cn : Nat) (Ao : Option Addr) (co : Nat) (mo kind height n : Int) (ks : ByteArray) (kn kd : Int) (v : ByteArray) (w : World) (h : SkAt w g base S most) (hCn : Kd.C k45 w An (nodesR id S).length (nodesR id S)) (hcn : (nodesR id S).length ≤ cn) (hCo : Kd.C (Kd.int .i64) w Ao (ordR S).length (ordR S)) (hco : (ordR S).length ≤ co) (hwf : wrap64 n = n) (j : Int) (hk : morainelaw08_among.f kind 8 = some j) (hj1 : j ≠ 1) (hj2 : j ≠ 2) (hj3 : j ≠ 3) (hj4 : j ≠ 4) (hj5 : j ≠ 5) (hj6 : j ≠ 6) :
    Calls Try.prog 35 #[.pointer (some ⟨g, 0, none⟩), .agg #[.int .i64 mo, .slice An (nodesR id S).length cn, .slice Ao (ordR S).length co], .agg #[.int .i64 kind, .int .i64 height, .int .i64 n, .string ks, .int .u64 kn, .int .i64 kd, .string v]] w fun e w' => e = .returned (.bool true) ∧ Below w.heap.size w w' := by
  have hf := h.fine
  have hol := hf.1.len
  have hnl := nodesR_len id S
  have HNL := Aside0.mk hnl
  have HS1 := Aside0.mk (fun W (hb : Below w.heap.size w W) => ask_first g base most S W (h.below hb))
  have HS2 := Aside0.mk (fun W (hb : Below w.heap.size w W) => ask_last g base most S W (h.below hb))
  have HS3 := Aside0.mk (fun W (hb : Below w.heap.size w W) => ask_len g base most S W (h.below hb))
  have HS4 := Aside0.mk (fun W (hb : Below w.heap.size w W) => ask_height g base most S W (h.below hb))
  have HR1 := Aside0.mk (fun W (hb : Below w.heap.size w W) => moraineref08_List_First.calls mo An cn (nodesR id S) Ao co (ordR S) _ W (Kd.C_below hCn hb) hcn (Kd.C_below hCo hb) hco (rfirst_eq id mo))
  have HR2 := Aside0.mk (fun W (hb : Below w.heap.size w W) => moraineref08_List_Last.calls mo An cn (nodesR id S) Ao co (ordR S) _ W (Kd.C_below hCn hb) hcn (Kd.C_below hCo hb) hco (rlast_eq id hf.1 hf.2.1 mo))
  have HR4 := Aside0.mk (fun W (hb : Below w.heap.size w W) => moraineref08_List_Height.calls 2097152 mo An cn (nodesR id S) Ao co (ordR S) _ W (Kd.C_below hCn hb) hcn (Kd.C_below hCo hb) hco (rheight_eq id mo hf.2.1 2097152 (by omega)))
  obtain ⟨nn, hnn⟩ : ∃ nn, (nodesR id S).length = nn := ⟨_, rfl⟩
  obtain ⟨no, hno⟩ : ∃ no, (ordR S).length = no := ⟨_, rfl⟩
  rw [hnn, hno]
  rw [hnn] at HNL
  rw [hnn, hno] at HR1 HR2 HR4
  rw [← hnl, hnn] at HS3
  obtain ⟨x1, hx1⟩ : ∃ x, ((S.order.headD 0 : Nat) : Int) = x := ⟨_, rfl⟩
  rw [hx1] at HS1
  rw [hx1] at HR1
  clear hx1
  obtain ⟨x2, hx2⟩ : ∃ x, ((lastOf S.order : Nat) : Int) = x := ⟨_, rfl⟩
  rw [hx2] at HS2
  rw [hx2] at HR2
  clear hx2
  obtain ⟨x4, hx4⟩ : ∃ x, ((S.height : Nat) : Int) = x := ⟨_, rfl⟩
  rw [hx4] at HS4
  rw [hx4] at HR4
  clear hx4
  obtain ⟨W0, hW0⟩ : ∃ W0, (w.alloc (.cells #[.int .i64 mo, .slice An nn cn, .slice Ao no co] 30)).alloc (.cells #[.int .i64 kind, .int .i64 height, .int .i64 n, .string ks, .int .u64 kn, .int .i64 kd, .string v] 72) = W0 := ⟨_, rfl⟩
  have hx4 : W0.heap[w.heap.size]? = some (.cells #[.int .i64 mo, .slice An nn cn, .slice Ao no co] 30 (0, 0)) := by rw [← hW0]; exact (Below.heap_alloc _ _ _ (by rw [World.size_alloc]; omega)).trans (blk_new w _)
  have hx5 : W0.heap[w.heap.size + 1]? = some (.cells #[.int .i64 kind, .int .i64 height, .int .i64 n, .string ks, .int .u64 kn, .int .i64 kd, .string v] 72 (0, 0)) := by
    have := blk_new (w.alloc (.cells #[.int .i64 mo, .slice An nn cn, .slice Ao no co] 30)) (.cells #[.int .i64 kind, .int .i64 height, .int .i64 n, .string ks, .int .u64 kn, .int .i64 kd, .string v] 72)
    rw [World.size_alloc] at this
    rw [← hW0]; exact this
  have HB := Aside0.mk (show Below w.heap.size w W0 by rw [← hW0]; exact below_alloc (below_alloc (Below.refl _ _) _) _)
  have HX4 := Aside0.mk hx4
  have HX5 := Aside0.mk hx5
  have HW := Aside0.mk hW0
  have y0 := (blk_cell hx5 0).trans (show _ = some (.int .i64 kind) from rfl)
  rw [← hW0] at y0
  have HAM := Aside0.mk hk
  clear hk
  have b1 : (j == 1) = false := by simpa using hj1
  have b2 : (j == 2) = false := by simpa using hj2
  have b3 : (j == 3) = false := by simpa using hj3
  have b4 : (j == 4) = false := by simpa using hj4
  have b5 : (j == 5) = false := by simpa using hj5
  have b6 : (j == 6) = false := by simpa using hj6
  clear h hCn hcn hCo hco hf hol hnl hnn hno hW0 hx4 hx5 hwf hj1 hj2 hj3 hj4 hj5 hj6
  go_enter Try.func35, Try.ntmps35
  go_wp2_with fail
  rw [HW.out]
  (with_reducible refine (morainelaw08_among.calls kind 8 j _ HAM.out).mono ?_)
  rintro e w1 ⟨rfl, hd⟩
  have HB := Aside0.mk (below_step HB.out hd.below)
  have HX4 := Aside0.mk (blk_below HX4.out hd.below)
  have HX5 := Aside0.mk (blk_below HX5.out hd.below)
  clear hd y0 HW HAM
  have r0 : w1.cell? ⟨w.heap.size, 0, none⟩ = some (.int .i64 mo) := (blk_cell HX4.out 0).trans rfl
  have r1 : w1.cell? ⟨w.heap.size, 1, none⟩ = some (.slice An nn cn) := (blk_cell HX4.out 1).trans rfl
  have r2 : w1.cell? ⟨w.heap.size, 2, none⟩ = some (.slice Ao no co) := (blk_cell HX4.out 2).trans rfl
  go_wp2_with fail
  refine start_ (n := 28) (S := fun w' => w'.cell? ⟨w.heap.size, 0, none⟩ = some (.int .i64 mo) ∧ w'.cell? ⟨w.heap.size, 1, none⟩ = some (.slice An nn cn) ∧ w'.cell? ⟨w.heap.size, 2, none⟩ = some (.slice Ao no co)) (ds := []) #[false, false, false, false, false, false, false, false, false, false, false, false, false, false, false, false, false, false, false, false, false, false, false, false, false, false, false, false] (by kernel_rfl) rfl rfl ⟨r0, r1, r2⟩ (fun hHeld => ?_)
  refine pure_ (i := 0) (N := some 141) (v := ?_) (a' := ?_) #[true, false, false, false, false, false, false, false, false, false, false, false, false, false, false, false, false, false, false, false, false, false, false, false, false, false, false, false] rfl rfl (by kernel_rfl) (fun _ _ _ h => h) (Or.inl ⟨by rfl, ?_⟩) ?_ ?_
  rotate_left
  · intro w'
    go_simp
    with_reducible rfl
  rotate_left
  · simp only [Act.put, List.setIfInBounds_toArray, List.set_cons_zero, List.set_cons_succ, i64_w, i32_w]
    rfl
  refine take_ (i := 2) (N := some 143) (v := ?_) (a' := ?_) #[true, false, true, false, false, false, false, false, false, false, false, false, false, false, false, false, false, false, false, false, false, false, false, false, false, false, false, false] rfl rfl (by kernel_rfl) (fun _ _ _ h => h) (Or.inl ⟨by rfl, ?_⟩) hHeld ?_ ?_
  rotate_left
  · rintro w' ⟨s0, s1, s2⟩
    go_simp
    with_reducible rfl
  rotate_left
  · simp only [Act.put, List.setIfInBounds_toArray, List.set_cons_zero, List.set_cons_succ, i64_w, i32_w]
    rfl
  refine one_ (i := 1) (N := some 142) #[true, true, true, false, false, false, false, false, false, false, false, false, false, false, false, false, false, false, false, false, false, false, false, false, false, false, false, false] rfl rfl (by kernel_rfl) (by decide) (fun K hK => ?_)
  refine goes_ Try.func68 (by kernel_rfl) rfl #[.pointer (some ⟨g, 0, none⟩)] (by rfl) rfl rfl (by simp only [List.map_toArray, List.map_cons, List.map_nil]; rfl) ?_
  with_reducible refine (HS1.out _ (below_step HB.out (below_drew1 (Below.refl _ _)))).mono ?_
  rintro e wa ⟨rfl, hb⟩
  refine ⟨_, rfl, ?_⟩
  have HDa := Aside0.mk (show Below w1.heap.size w1 wa from below_step (below_drew1 (Below.refl _ _)) hb)
  clear hb
  refine hK.out _ _ ⟨pw_cell_below HDa.out r0, pw_cell_below HDa.out r1, pw_cell_below HDa.out r2⟩ (fun hHeld => ?_)
  clear hK K
  refine norm_ (a' := ?_) ?_ ?_
  rotate_left
  · show Act.put _ (some 142) _ = _
    simp only [Act.put, List.setIfInBounds_toArray, List.set_cons_zero, List.set_cons_succ, i64_w, i32_w]
    rfl
  refine one_ (i := 3) (N := some 144) #[true, true, true, true, false, false, false, false, false, false, false, false, false, false, false, false, false, false, false, false, false, false, false, false, false, false, false, false] rfl rfl (by kernel_rfl) (by decide) (fun K hK => ?_)
  refine goes_ Try.func69 (by kernel_rfl) rfl #[.agg #[.int .i64 mo, .slice An nn cn, .slice Ao no co]] (by rfl) rfl rfl (by simp only [List.map_toArray, List.map_cons, List.map_nil]; rfl) ?_
  with_reducible refine (HR1.out _ (below_step HB.out HDa.out)).mono ?_
  rintro e wb ⟨rfl, hb⟩
  refine ⟨_, rfl, ?_⟩
  have HDb := Aside0.mk (show Below w1.heap.size w1 wb from below_step HDa.out hb)
  clear hb
  refine hK.out _ _ ⟨pw_cell_below HDb.out r0, pw_cell_below HDb.out r1, pw_cell_below HDb.out r2⟩ (fun hHeld => ?_)
  clear hK K
  refine norm_ (a' := ?_) ?_ ?_
  rotate_left
  · show Act.put _ (some 144) _ = _
    simp only [Act.put, List.setIfInBounds_toArray, List.set_cons_zero, List.set_cons_succ, i64_w, i32_w]
    rfl
  refine pure_ (i := 4) (N := some 145) (v := ?_) (a' := ?_) #[true, true, true, true, true, false, false, false, false, false, false, false, false, false, false, false, false, false, false, false, false, false, false, false, false, false, false, false] rfl rfl (by kernel_rfl) (fun _ _ _ h => h) (Or.inl ⟨by rfl, ?_⟩) ?_ ?_
  rotate_left
  · intro w'
    go_simp
    with_reducible rfl
  rotate_left
  · simp only [Act.put, List.setIfInBounds_toArray, List.set_cons_zero, List.set_cons_succ, i64_w, i32_w]
    rfl
  refine pure_ (i := 5) (N := some 146) (v := ?_) (a' := ?_) #[true, true, true, true, true, true, false, false, false, false, false, false, false, false, false, false, false, false, false, false, false, false, false, false, false, false, false, false] rfl rfl (by kernel_rfl) (fun _ _ _ h => h) (Or.inl ⟨by rfl, ?_⟩) ?_ ?_
  rotate_left
  · intro w'
    go_simp
    with_reducible rfl
  rotate_left
  · simp only [Act.put, List.setIfInBounds_toArray, List.set_cons_zero, List.set_cons_succ, i64_w, i32_w]
    rfl
  refine pure_ (i := 6) (N := some 147) (v := ?_) (a' := ?_) #[true, true, true, true, true, true, true, false, false, false, false, false, false, false, false, false, false, false, false, false, false, false, false, false, false, false, false, false] rfl rfl (by kernel_rfl) (fun _ _ _ h => h) (Or.inl ⟨by rfl, ?_⟩) ?_ ?_
  rotate_left
  · intro w'
    go_simp
    with_reducible rfl
  rotate_left
  · simp only [Act.put, List.setIfInBounds_toArray, List.set_cons_zero, List.set_cons_succ, i64_w, i32_w]
    rfl
  refine take_ (i := 8) (N := some 149) (v := ?_) (a' := ?_) #[true, true, true, true, true, true, true, false, true, false, false, false, false, false, false, false, false, false, false, false, false, false, false, false, false, false, false, false] rfl rfl (by kernel_rfl) (fun _ _ _ h => h) (Or.inl ⟨by rfl, ?_⟩) hHeld ?_ ?_
  rotate_left
  · rintro w' ⟨s0, s1, s2⟩
    go_simp
    with_reducible rfl
  rotate_left
  · simp only [Act.put, List.setIfInBounds_toArray, List.set_cons_zero, List.set_cons_succ, i64_w, i32_w]
    rfl
  refine one_ (i := 7) (N := some 148) #[true, true, true, true, true, true, true, true, true, false, false, false, false, false, false, false, false, false, false, false, false, false, false, false, false, false, false, false] rfl rfl (by kernel_rfl) (by decide) (fun K hK => ?_)
  refine goes_ Try.func70 (by kernel_rfl) rfl #[.pointer (some ⟨g, 0, none⟩)] (by rfl) rfl rfl (by simp only [List.map_toArray, List.map_cons, List.map_nil]; rfl) ?_
  with_reducible refine (HS2.out _ (below_step HB.out HDb.out)).mono ?_
  rintro e wc ⟨rfl, hb⟩
  refine ⟨_, rfl, ?_⟩
  have HDc := Aside0.mk (show Below w1.heap.size w1 wc from below_step HDb.out hb)
  clear hb
  refine hK.out _ _ ⟨pw_cell_below HDc.out r0, pw_cell_below HDc.out r1, pw_cell_below HDc.out r2⟩ (fun hHeld => ?_)
  clear hK K
  refine norm_ (a' := ?_) ?_ ?_
  rotate_left
  · show Act.put _ (some 148) _ = _
    simp only [Act.put, List.setIfInBounds_toArray, List.set_cons_zero, List.set_cons_succ, i64_w, i32_w]
    rfl
  refine one_ (i := 9) (N := some 150) #[true, true, true, true, true, true, true, true, true, true, false, false, false, false, false, false, false, false, false, false, false, false, false, false, false, false, false, false] rfl rfl (by kernel_rfl) (by decide) (fun K hK => ?_)
  refine goes_ Try.func71 (by kernel_rfl) rfl #[.agg #[.int .i64 mo, .slice An nn cn, .slice Ao no co]] (by rfl) rfl rfl (by simp only [List.map_toArray, List.map_cons, List.map_nil]; rfl) ?_
  with_reducible refine (HR2.out _ (below_step HB.out HDc.out)).mono ?_
  rintro e wd ⟨rfl, hb⟩
  refine ⟨_, rfl, ?_⟩
  have HDd := Aside0.mk (show Below w1.heap.size w1 wd from below_step HDc.out hb)
  clear hb
  refine hK.out _ _ ⟨pw_cell_below HDd.out r0, pw_cell_below HDd.out r1, pw_cell_below HDd.out r2⟩ (fun hHeld => ?_)
  clear hK K
  refine norm_ (a' := ?_) ?_ ?_
  rotate_left
  · show Act.put _ (some 150) _ = _
    simp only [Act.put, List.setIfInBounds_toArray, List.set_cons_zero, List.set_cons_succ, i64_w, i32_w]
    rfl
  refine pure_ (i := 10) (N := some 151) (v := ?_) (a' := ?_) #[true, true, true, true, true, true, true, true, true, true, true, false, false, false, false, false, false, false, false, false, false, false, false, false, false, false, false, false] rfl rfl (by kernel_rfl) (fun _ _ _ h => h) (Or.inl ⟨by rfl, ?_⟩) ?_ ?_
  rotate_left
  · intro w'
    go_simp
    with_reducible rfl
  rotate_left
  · simp only [Act.put, List.setIfInBounds_toArray, List.set_cons_zero, List.set_cons_succ, i64_w, i32_w]
    rfl
  refine pure_ (i := 11) (N := some 152) (v := ?_) (a' := ?_) #[true, true, true, true, true, true, true, true, true, true, true, true, false, false, false, false, false, false, false, false, false, false, false, false, false, false, false, false] rfl rfl (by kernel_rfl) (fun _ _ _ h => h) (Or.inl ⟨by rfl, ?_⟩) ?_ ?_
  rotate_left
  · intro w'
    go_simp
    with_reducible rfl
  rotate_left
  · simp only [Act.put, List.setIfInBounds_toArray, List.set_cons_zero, List.set_cons_succ, i64_w, i32_w]
    rfl
  refine pure_ (i := 12) (N := some 153) (v := ?_) (a' := ?_) #[true, true, true, true, true, true, true, true, true, true, true, true, true, false, false, false, false, false, false, false, false, false, false, false, false, false, false, false] rfl rfl (by kernel_rfl) (fun _ _ _ h => h) (Or.inl ⟨by rfl, ?_⟩) ?_ ?_
  rotate_left
  · intro w'
    go_simp
    with_reducible rfl
  rotate_left
  · simp only [Act.put, List.setIfInBounds_toArray, List.set_cons_zero, List.set_cons_succ, i64_w, i32_w]
    rfl
  refine pure_ (i := 13) (N := some 154) (v := ?_) (a' := ?_) #[true, true, true, true, true, true, true, true, true, true, true, true, true, true, false, false, false, false, false, false, false, false, false, false, false, false, false, false] rfl rfl (by kernel_rfl) (fun _ _ _ h => h) (Or.inl ⟨by rfl, ?_⟩) ?_ ?_
  rotate_left
  · intro w'
    go_simp
    with_reducible rfl
  rotate_left
  · simp only [Act.put, List.setIfInBounds_toArray, List.set_cons_zero, List.set_cons_succ, i64_w, i32_w]
    rfl
  refine pure_ (i := 15) (N := some 156) (v := ?_) (a' := ?_) #[true, true, true, true, true, true, true, true, true, true, true, true, true, true, false, true, false, false, false, false, false, false, false, false, false, false, false, false] rfl rfl (by kernel_rfl) (fun _ _ _ h => h) (Or.inl ⟨by rfl, ?_⟩) ?_ ?_
  rotate_left
  · intro w'
    go_simp
    with_reducible rfl
  rotate_left
  · simp only [Act.put, List.setIfInBounds_toArray, List.set_cons_zero, List.set_cons_succ, i64_w, i32_w]
    rfl
  refine take_ (i := 16) (N := some 157) (v := ?_) (a' := ?_) #[true, true, true, true, true, true, true, true, true, true, true, true, true, true, false, true, true, false, false, false, false, false, false, false, false, false, false, false] rfl rfl (by kernel_rfl) (fun _ _ _ h => h) (Or.inl ⟨by rfl, ?_⟩) hHeld ?_ ?_
  rotate_left
  · rintro w' ⟨s0, s1, s2⟩
    go_simp
    with_reducible rfl
  rotate_left
  · simp only [Act.put, List.setIfInBounds_toArray, List.set_cons_zero, List.set_cons_succ, i64_w, i32_w]
    rfl
  refine pure_ (i := 17) (N := some 158) (v := ?_) (a' := ?_) #[true, true, true, true, true, true, true, true, true, true, true, true, true, true, false, true, true, true, false, false, false, false, false, false, false, false, false, false] rfl rfl (by kernel_rfl) (fun _ _ _ h => h) (Or.inl ⟨by rfl, ?_⟩) ?_ ?_
  rotate_left
  · intro w'
    go_simp
    with_reducible rfl
  rotate_left
  · simp only [Act.put, List.setIfInBounds_toArray, List.set_cons_zero, List.set_cons_succ, i64_w, i32_w]
    rfl
  refine one_ (i := 14) (N := some 155) #[true, true, true, true, true, true, true, true, true, true, true, true, true, true, true, true, true, true, false, false, false, false, false, false, false, false, false, false] rfl rfl (by kernel_rfl) (by decide) (fun K hK => ?_)
  refine goes_ Try.func37 (by kernel_rfl) rfl #[.pointer (some ⟨g, 0, none⟩)] (by rfl) rfl rfl (by simp only [List.map_toArray, List.map_cons, List.map_nil]; rfl) ?_
  with_reducible refine (HS3.out _ (below_step HB.out HDd.out)).mono ?_
  rintro e wf ⟨rfl, hb⟩
  refine ⟨_, rfl, ?_⟩
  have HDf := Aside0.mk (show Below w1.heap.size w1 wf from below_step HDd.out hb)
  clear hb
  refine hK.out _ _ ⟨pw_cell_below HDf.out r0, pw_cell_below HDf.out r1, pw_cell_below HDf.out r2⟩ (fun hHeld => ?_)
  clear hK K
  refine norm_ (a' := ?_) ?_ ?_
  rotate_left
  · show Act.put _ (some 155) _ = _
    simp only [Act.put, List.setIfInBounds_toArray, List.set_cons_zero, List.set_cons_succ, i64_w, i32_w]
    rfl
  refine pure_ (i := 18) (N := some 159) (v := ?_) (a' := ?_) #[true, true, true, true, true, true, true, true, true, true, true, true, true, true, true, true, true, true, true, false, false, false, false, false, false, false, false, false] rfl rfl (by kernel_rfl) (fun _ _ _ h => h) (Or.inl ⟨by rfl, ?_⟩) ?_ ?_
  rotate_left
  · intro w'
    go_simp
    with_reducible rfl
  rotate_left
  · simp only [Act.put, List.setIfInBounds_toArray, List.set_cons_zero, List.set_cons_succ, i64_w, i32_w]
    rfl
  refine pure_ (i := 19) (N := some 160) (v := ?_) (a' := ?_) #[true, true, true, true, true, true, true, true, true, true, true, true, true, true, true, true, true, true, true, true, false, false, false, false, false, false, false, false] rfl rfl (by kernel_rfl) (fun _ _ _ h => h) (Or.inl ⟨by rfl, ?_⟩) ?_ ?_
  rotate_left
  · intro w'
    go_simp
    with_reducible rfl
  rotate_left
  · simp only [Act.put, List.setIfInBounds_toArray, List.set_cons_zero, List.set_cons_succ, i64_w, i32_w]
    rfl
  refine pure_ (i := 20) (N := some 161) (v := ?_) (a' := ?_) #[true, true, true, true, true, true, true, true, true, true, true, true, true, true, true, true, true, true, true, true, true, false, false, false, false, false, false, false] rfl rfl (by kernel_rfl) (fun _ _ _ h => h) (Or.inl ⟨by rfl, ?_⟩) ?_ ?_
  rotate_left
  · intro w'
    go_simp
    with_reducible rfl
  rotate_left
  · simp only [Act.put, List.setIfInBounds_toArray, List.set_cons_zero, List.set_cons_succ, i64_w, i32_w]
    rfl
  refine pure_ (i := 21) (N := some 162) (v := ?_) (a' := ?_) #[true, true, true, true, true, true, true, true, true, true, true, true, true, true, true, true, true, true, true, true, true, true, false, false, false, false, false, false] rfl rfl (by kernel_rfl) (fun _ _ _ h => h) (Or.inl ⟨by rfl, ?_⟩) ?_ ?_
  rotate_left
  · intro w'
    go_simp
    with_reducible rfl
  rotate_left
  · simp only [Act.put, List.setIfInBounds_toArray, List.set_cons_zero, List.set_cons_succ, i64_w, i32_w]
    rfl
  refine take_ (i := 23) (N := some 164) (v := ?_) (a' := ?_) #[true, true, true, true, true, true, true, true, true, true, true, true, true, true, true, true, true, true, true, true, true, true, false, true, false, false, false, false] rfl rfl (by kernel_rfl) (fun _ _ _ h => h) (Or.inl ⟨by rfl, ?_⟩) hHeld ?_ ?_
  rotate_left
  · rintro w' ⟨s0, s1, s2⟩
    go_simp
    with_reducible rfl
  rotate_left
  · simp only [Act.put, List.setIfInBounds_toArray, List.set_cons_zero, List.set_cons_succ, i64_w, i32_w]
    rfl
  refine one_ (i := 22) (N := some 163) #[true, true, true, true, true, true, true, true, true, true, true, true, true, true, true, true, true, true, true, true, true, true, true, true, false, false, false, false] rfl rfl (by kernel_rfl) (by decide) (fun K hK => ?_)
  refine goes_ Try.func72 (by kernel_rfl) rfl #[.pointer (some ⟨g, 0, none⟩)] (by rfl) rfl rfl (by simp only [List.map_toArray, List.map_cons, List.map_nil]; rfl) ?_
  with_reducible refine (HS4.out _ (below_step HB.out HDf.out)).mono ?_
  rintro e wg_ ⟨rfl, hb⟩
  refine ⟨_, rfl, ?_⟩
  have HDg_ := Aside0.mk (show Below w1.heap.size w1 wg_ from below_step HDf.out hb)
  clear hb
  refine hK.out _ _ ⟨pw_cell_below HDg_.out r0, pw_cell_below HDg_.out r1, pw_cell_below HDg_.out r2⟩ (fun hHeld => ?_)
  clear hK K
  refine norm_ (a' := ?_) ?_ ?_
  rotate_left
  · show Act.put _ (some 163) _ = _
    simp only [Act.put, List.setIfInBounds_toArray, List.set_cons_zero, List.set_cons_succ, i64_w, i32_w]
    rfl
  refine one_ (i := 24) (N := some 165) #[true, true, true, true, true, true, true, true, true, true, true, true, true, true, true, true, true, true, true, true, true, true, true, true, true, false, false, false] rfl rfl (by kernel_rfl) (by decide) (fun K hK => ?_)
  refine goes_ Try.func73 (by kernel_rfl) rfl #[.agg #[.int .i64 mo, .slice An nn cn, .slice Ao no co]] (by rfl) rfl rfl (by simp only [List.map_toArray, List.map_cons, List.map_nil]; rfl) ?_
  with_reducible refine (HR4.out _ (below_step HB.out HDg_.out)).mono ?_
  rintro e wh_ ⟨rfl, hb⟩
  refine ⟨_, rfl, ?_⟩
  have HDh_ := Aside0.mk (show Below w1.heap.size w1 wh_ from below_step HDg_.out hb)
  clear hb
  refine hK.out _ _ ⟨pw_cell_below HDh_.out r0, pw_cell_below HDh_.out r1, pw_cell_below HDh_.out r2⟩ (fun hHeld => ?_)
  clear hK K
  refine norm_ (a' := ?_) ?_ ?_
  rotate_left
  · show Act.put _ (some 165) _ = _
    simp only [Act.put, List.setIfInBounds_toArray, List.set_cons_zero, List.set_cons_succ, i64_w, i32_w]
    rfl
  refine pure_ (i := 25) (N := some 166) (v := ?_) (a' := ?_) #[true, true, true, true, true, true, true, true, true, true, true, true, true, true, true, true, true, true, true, true, true, true, true, true, true, true, false, false] rfl rfl (by kernel_rfl) (fun _ _ _ h => h) (Or.inl ⟨by rfl, ?_⟩) ?_ ?_
  rotate_left
  · intro w'
    go_simp
    with_reducible rfl
  rotate_left
  · simp only [Act.put, List.setIfInBounds_toArray, List.set_cons_zero, List.set_cons_succ, i64_w, i32_w]
    rfl
  refine pure_ (i := 26) (N := some 167) (v := ?_) (a' := ?_) #[true, true, true, true, true, true, true, true, true, true, true, true, true, true, true, true, true, true, true, true, true, true, true, true, true, true, true, false] rfl rfl (by kernel_rfl) (fun _ _ _ h => h) (Or.inl ⟨by rfl, ?_⟩) ?_ ?_
  rotate_left
  · intro w'
    go_simp
    with_reducible rfl
  rotate_left
  · simp only [Act.put, List.setIfInBounds_toArray, List.set_cons_zero, List.set_cons_succ, i64_w, i32_w]
    rfl
  refine pure_ (i := 27) (N := some 6) (v := ?_) (a' := ?_) #[true, true, true, true, true, true, true, true, true, true, true, true, true, true, true, true, true, true, true, true, true, true, true, true, true, true, true, true] rfl rfl (by kernel_rfl) (fun _ _ _ h => h) (Or.inl ⟨by rfl, ?_⟩) ?_ ?_
  rotate_left
  · intro w'
    go_simp
    with_reducible rfl
  rotate_left
  · simp only [Act.put, List.setIfInBounds_toArray, List.set_cons_zero, List.set_cons_succ, i64_w, i32_w]
    rfl
  refine done_ (by kernel_rfl) ?_
  have HB := Aside0.mk (below_step HB.out HDh_.out)
  clear hHeld
  go_wp2
  go_ret
  exact ⟨by simp, HB.out⟩
theorem M45 (W W' : World) (b b' : Nat) (p p' : Nat → Prop) (x : S45) (cs : List Value) (h : k45.M W b p x cs) : k45.M W' b' p' x cs := by
  rw [k45_openM h]; exact k45_mkM W' b' p' x
theorem R_only {α : Type} {k : Kd α} {T : TypeId} {w : World} {base : Nat} {ok : Nat → Prop} {v : Value} {l : List α} (h : Kd.R k T w base ok v l) (hM : ∀ (W : World) (b : Nat) (p p' : Nat → Prop) (x : α) (cs : List Value), k.M W b p x cs → k.M W b p' x cs) : Kd.R k T w base (fun q => v.ownBlock = some q) v l := by
  obtain ⟨h0, inner, ho, hrr⟩ := h
  exact ⟨fun _ hk => hk, inner, ho, hrr.imp_ (fun _ _ hp => hM _ _ _ _ _ _ hp)⟩
theorem R_over {α : Type} {k : Kd α} {T : TypeId} {w w1 : World} {base : Nat} {ok : Nat → Prop} {v : Value} {l : List α} (h : Kd.R k T w base ok v l) (hM : ∀ (W W' : World) (b : Nat) (p : Nat → Prop) (x : α) (cs : List Value), k.M W b p x cs → k.M W' b p x cs) (hm : ∀ (q : Nat) (cs : Array Value), v.ownBlock = some q → w.heap[q]? = some (.cells cs T (0, 0)) → w1.heap[q]? = w.heap[q]?) : Kd.R k T w1 base ok v l := by
  obtain ⟨h0, inner, ho, hrr⟩ := h
  refine ⟨h0, inner, own_move ho fun q hq => ?_, hrr.imp_ (fun _ _ hp => hM _ _ _ _ _ _ hp)⟩
  obtain ⟨cs, hc⟩ := own_typed ho q hq
  exact hm q cs hq hc
theorem SkAt.over {w w1 : World} {g base most : Nat} {S : SL ByteArray} (h : SkAt w g base S most) (hm : ∀ (q : Nat) (cs : Array Value) (t : TypeId), w.heap[q]? = some (.cells cs t (0, 0)) → (t = 95 ∨ t = 101) → w1.heap[q]? = w.heap[q]?) : SkAt w1 g base S most := by
  obtain ⟨b, c, ns, h1, h2, h3⟩ := h
  refine ⟨b, c, ns, (hm g _ _ h1 (.inl rfl)).trans h1, ndR_move h2 fun q hq => ?_, h3⟩
  obtain ⟨inner, hown⟩ := Kd.R_own h2
  obtain ⟨cs, hc⟩ := own_typed hown q hq
  exact hm q _ _ hc (.inr rfl)
theorem turns_R {α : Type} {k : Kd α} {T : TypeId} {w w' : World} {g base most b2 : Nat} {S : SL ByteArray} {ok : Nat → Prop} {v : Value} {l : List α} (hk : Kept w w' (Turns w g base)) (h : SkAt w g base S most) (hr : Kd.R k T w b2 ok v l) (hM : ∀ (W W' : World) (b : Nat) (p : Nat → Prop) (x : α) (cs : List Value), k.M W b p x cs → k.M W' b p x cs)
    (h1 : T ≠ 95) (h2 : T ≠ 101) : Kd.R k T w' b2 ok v l := by
  obtain ⟨h0, inner, ho, hrr⟩ := hr
  refine ⟨h0, inner, own_move ho fun q hq => ?_, hrr.imp_ (fun _ _ hp => hM _ _ _ _ _ _ hp)⟩
  obtain ⟨cs, hc⟩ := own_typed ho q hq
  rw [turns_blk hk h hc h1 h2, hc]
theorem asked_any (g base most : Nat) (S : SL ByteArray) (An : Option Addr) (cn : Nat) (Ao : Option Addr) (co : Nat) (mo kind height n : Int) (ks : ByteArray) (kn kd : Int) (v : ByteArray) (w : World) (h : SkAt w g base S most) (hCn : Kd.C k45 w An (nodesR id S).length (nodesR id S)) (hcn : (nodesR id S).length ≤ cn) (hCo : Kd.C (Kd.int .i64) w Ao (ordR S).length (ordR S)) (hco : (ordR S).length ≤ co) (hwf : wrap64 n = n) :
    Calls Try.prog 35 #[.pointer (some ⟨g, 0, none⟩), .agg #[.int .i64 mo, .slice An (nodesR id S).length cn, .slice Ao (ordR S).length co], .agg #[.int .i64 kind, .int .i64 height, .int .i64 n, .string ks, .int .u64 kn, .int .i64 kd, .string v]] w fun e w' => e = .returned (.bool true) ∧ Below w.heap.size w w' := by
  obtain ⟨j, hj⟩ : ∃ j, morainelaw08_among.f kind 8 = some j := ⟨_, if_neg (by decide)⟩
  by_cases h1 : j = 1
  · subst h1; exact asked_1 g base most S An cn Ao co mo kind height n ks kn kd v w h hCn hcn hCo hco hwf hj
  by_cases h2 : j = 2
  · subst h2; exact asked_2 g base most S An cn Ao co mo kind height n ks kn kd v w h hCn hcn hCo hco hwf hj
  by_cases h3 : j = 3
  · subst h3; exact asked_3 g base most S An cn Ao co mo kind height n ks kn kd v w h hCn hcn hCo hco hwf hj
  by_cases h4 : j = 4
  · subst h4; exact asked_4 g base most S An cn Ao co mo kind height n ks kn kd v w h hCn hcn hCo hco hwf hj
  by_cases h5 : j = 5
  · subst h5; exact asked_5 g base most S An cn Ao co mo kind height n ks kn kd v w h hCn hcn hCo hco hwf hj
  by_cases h6 : j = 6
  · subst h6; exact asked_6 g base most S An cn Ao co mo kind height n ks kn kd v w h hCn hcn hCo hco hwf hj
  exact asked_7 g base most S An cn Ao co mo kind height n ks kn kd v w h hCn hcn hCo hco hwf j hj h1 h2 h3 h4 h5 h6
theorem sk_new_bad (most : Int) (w : World) (hb : most < 1 ∨ 1048576 < most) : Calls Try.prog 34 #[.int .i64 most] w fun e w' => e = .returned (.tuple #[.pointer none, .int .i64 2]) ∧ Below w.heap.size w w' := by
  have HB := Aside0.mk (Below.refl w.heap.size w)
  by_cases h1 : most < 1
  · have b1 : decide (most < 1) = true := decide_eq_true h1
    clear hb h1
    go_enter Try.func34, Try.ntmps34
    go_wp2
    refine bodyPost_ret (by simp [results, Try.results34, go_sem]; rfl) rfl ?_
    exact ⟨rfl, HB.out⟩
  · have b1 : decide (most < 1) = false := decide_eq_false h1
    have b2 : decide (most > 1048576) = true := decide_eq_true (by omega)
    clear hb h1
    go_enter Try.func34, Try.ntmps34
    go_wp2
    refine bodyPost_ret (by simp [results, Try.results34, go_sem]; rfl) rfl ?_
    exact ⟨rfl, HB.out⟩
abbrev Act08 := Int × Int × Int × S37 × ByteArray
abbrev ActK := Kd.pair (Kd.int .i64) (Kd.pair (Kd.int .i64) (Kd.pair (Kd.int .i64) (Kd.pair k37 Kd.string)))
def zAct : Act08 := (0, 0, 0, z37, ⟨#[]⟩)
theorem act_open {w : World} {x : Act08} {cs : List Value} (h : ActK.K w x cs) : cs = [.int .i64 x.1, .int .i64 x.2.1, .int .i64 x.2.2.1, .string x.2.2.2.1.f0, .int .u64 x.2.2.2.1.f1, .int .i64 x.2.2.2.1.f2, .string x.2.2.2.2] := by
  obtain ⟨d1, e1, q1, h1, d2, e2, q2, h2, d3, e3, q3, h3, d4, e4, q4, h4, h5⟩ := h
  have e5 := k37_open h4
  have a1 : d1 = [.int .i64 x.1] := h1
  have a2 : d2 = [.int .i64 x.2.1] := h2
  have a3 : d3 = [.int .i64 x.2.2.1] := h3
  have a5 : e4 = [.string x.2.2.2.2] := h5
  subst a1 a2 a3 a5 e5
  rw [q1, q2, q3, q4]
  rfl
theorem at_act {w : World} {A : Option Addr} {n : Nat} {xs : List Act08} (h : Kd.C ActK w A n xs) (i : Nat) (h1 : i < n) : ∃ ad x, A = some ad ∧ xs[i]? = some x ∧ w.cell? (ad.add (i * 7)) = some (.int .i64 x.1) ∧ w.cell? ⟨(ad.add (i * 7)).block, (ad.add (i * 7)).off + 1, none⟩ = some (.int .i64 x.2.1) ∧ w.cell? ⟨(ad.add (i * 7)).block, (ad.add (i * 7)).off + 2, none⟩ = some (.int .i64 x.2.2.1) ∧
    w.cell? ⟨(ad.add (i * 7)).block, (ad.add (i * 7)).off + 3, none⟩ = some (.string x.2.2.2.1.f0) ∧ w.cell? ⟨(ad.add (i * 7)).block, (ad.add (i * 7)).off + 4, none⟩ = some (.int .u64 x.2.2.2.1.f1) ∧ w.cell? ⟨(ad.add (i * 7)).block, (ad.add (i * 7)).off + 5, none⟩ = some (.int .i64 x.2.2.2.1.f2) ∧ w.cell? ⟨(ad.add (i * 7)).block, (ad.add (i * 7)).off + 6, none⟩ = some (.string x.2.2.2.2) := by
  obtain ⟨ad, c, e, _, hK, hc0⟩ := Kd.C_get h zAct (i : Int) (by omega) (by omega)
  rw [Int.toNat_natCast] at hK hc0
  have hc : ∀ j u, c[j]? = some u → w.cell? (ad.add (i * 7 + j)) = some u := hc0
  obtain rfl := act_open hK
  have hl : i < xs.length := by have := h.1; omega
  refine ⟨ad, xs.getD i zAct, e, ?_, hc 0 _ rfl, by rw [← add_field _ _ 1 (by omega)]; exact hc 1 _ rfl, by rw [← add_field _ _ 2 (by omega)]; exact hc 2 _ rfl, by rw [← add_field _ _ 3 (by omega)]; exact hc 3 _ rfl, by rw [← add_field _ _ 4 (by omega)]; exact hc 4 _ rfl, by rw [← add_field _ _ 5 (by omega)]; exact hc 5 _ rfl, by rw [← add_field _ _ 6 (by omega)]; exact hc 6 _ rfl⟩
  rw [List.getD_eq_getElem?_getD, List.getElem?_eq_getElem hl]; rfl
/-- what stands between two steps -/
structure WP (w X : World) (g B7 most : Nat) (An : Option Addr) (nn cn : Nat) (Ao : Option Addr) (no co : Nat) (S T : SL ByteArray) : Prop where
  below : Below w.heap.size w X
  ref : X.heap[B7]? = some (.cells #[.int .i64 (most : Int), .slice An nn cn, .slice Ao no co] 30 (0, 0))
  b7 : w.heap.size ≤ B7
  rn : Kd.R k45 45 X w.heap.size (fun q => (Value.slice An nn cn).ownBlock = some q) (.slice An nn cn) (nodesR id S)
  ro : Kd.R (Kd.int .i64) 3 X w.heap.size (fun q => (Value.slice Ao no co).ownBlock = some q) (.slice Ao no co) (ordR S)
  sk : SkAt X g w.heap.size T most
section
variable {w X Y : World} {g B7 most : Nat} {An : Option Addr} {nn cn : Nat} {Ao : Option Addr} {no co : Nat} {S T : SL ByteArray}
theorem WP.later (h : WP w X g B7 most An nn cn Ao no co S T) (hb : Below X.heap.size X Y) : WP w Y g B7 most An nn cn Ao no co S T :=
  ⟨below_step h.below hb, blk_below h.ref hb, h.b7, Kd.R_below h.rn hb, Kd.R_below h.ro hb, h.sk.below hb⟩
theorem WP.turned {T' : SL ByteArray} (h : WP w X g B7 most An nn cn Ao no co S T) (hk : Kept X Y (Turns X g w.heap.size)) (hb : Below w.heap.size X Y) (hs : SkAt Y g w.heap.size T' most) : WP w Y g B7 most An nn cn Ao no co S T' :=
  ⟨h.below.trans hb, turns_blk hk h.sk h.ref (by decide) (by decide), h.b7,
    turns_R hk h.sk h.rn (fun _ _ _ _ _ _ h => M45 _ _ _ _ _ _ _ _ h) (by decide) (by decide), turns_R hk h.sk h.ro (fun _ _ _ _ _ _ h => h) (by decide) (by decide), hs⟩
theorem WP.keep (h : WP w X g B7 most An nn cn Ao no co S T) (hk : Kept X Y (fun q => (Value.slice An nn cn).ownBlock = some q ∨ (Value.slice Ao no co).ownBlock = some q)) {q : Nat} {cs : Array Value} {t : TypeId} (hq : X.heap[q]? = some (.cells cs t (0, 0))) (h1 : t ≠ 45) (h2 : t ≠ 3) : Y.heap[q]? = X.heap[q]? := by
  refine hk.2 q (blk_lt hq) ?_
  rintro (e | e)
  · obtain ⟨cs', hc⟩ := Kd.R_typed h.rn q e
    rw [hc] at hq
    injection hq with hq
    injection hq with _ hq _
    exact h1 hq.symm
  · obtain ⟨cs', hc⟩ := Kd.R_typed h.ro q e
    rw [hc] at hq
    injection hq with hq
    injection hq with _ hq _
    exact h2 hq.symm
/-- the document's list takes a node, and is stored -/
theorem WP.reffed {Z : World} {An2 : Option Addr} {nn2 cn2 : Nat} {Ao2 : Option Addr} {no2 co2 : Nat} {S2 : SL ByteArray} {ok1 ok2 : Nat → Prop} (h : WP w X g B7 most An nn cn Ao no co S T) (hk : Kept X Y (fun q => (Value.slice An nn cn).ownBlock = some q ∨ (Value.slice Ao no co).ownBlock = some q)) (hb : Below w.heap.size w Y)
    (hrn : Kd.R k45 45 Y w.heap.size ok1 (.slice An2 nn2 cn2) (nodesR id S2)) (hro : Kd.R (Kd.int .i64) 3 Y w.heap.size ok2 (.slice Ao2 no2 co2) (ordR S2))
    (hZ : ((Y.setCell ⟨B7, 0, none⟩ (.int .i64 (most : Int))).setCell ⟨B7, 1, none⟩ (.slice An2 nn2 cn2)).setCell ⟨B7, 2, none⟩ (.slice Ao2 no2 co2) = Z) : WP w Z g B7 most An2 nn2 cn2 Ao2 no2 co2 S2 T := by
  have hY7 := (h.keep hk h.ref (by decide) (by decide)).trans h.ref
  have far : ∀ (q : Nat) (cs : Array Value) (t : TypeId), Y.heap[q]? = some (.cells cs t (0, 0)) → t ≠ 30 → Z.heap[q]? = Y.heap[q]? := by
    intro q cs t hq h1
    have hne : q ≠ B7 := by
      rintro rfl
      rw [hY7] at hq
      injection hq with hq
      injection hq with _ hq _
      exact h1 hq.symm
    rw [← hZ]
    exact (Below.heap_setCell _ _ _ _ hne).trans ((Below.heap_setCell _ _ _ _ hne).trans (Below.heap_setCell _ _ _ _ hne))
  have hsY : SkAt Y g w.heap.size T most := h.sk.over fun q cs t hq ht => h.keep hk hq (by rcases ht with rfl | rfl <;> decide) (by rcases ht with rfl | rfl <;> decide)
  exact ⟨below_set3 hZ hb h.b7, blk_put3 hZ hY7, h.b7,
    R_only (R_over hrn (fun _ _ _ _ _ _ h => M45 _ _ _ _ _ _ _ _ h) fun q cs _ hc => far q cs _ hc (by decide)) (fun _ _ _ _ _ _ h => M45 _ _ _ _ _ _ _ _ h),
    R_only (R_over hro (fun _ _ _ _ _ _ h => h) fun q cs _ hc => far q cs _ hc (by decide)) (fun _ _ _ _ _ _ h => h),
    hsY.over fun q cs t hq ht => far q cs t hq (by rcases ht with rfl | rfl <;> decide)⟩
/-- asked, where both lists stand so -/
theorem WP.asked (h : WP w X g B7 most An nn cn Ao no co S S) (kind height n : Int) (ks : ByteArray) (kn kd : Int) (v : ByteArray) (hwf : wrap64 n = n) :
    Calls Try.prog 35 #[.pointer (some ⟨g, 0, none⟩), .agg #[.int .i64 (most : Int), .slice An nn cn, .slice Ao no co], .agg #[.int .i64 kind, .int .i64 height, .int .i64 n, .string ks, .int .u64 kn, .int .i64 kd, .string v]] X fun e w' => e = .returned (.bool true) ∧ Below X.heap.size X w' := by
  have h1 := Kd.R_reads' h.rn
  have h2 := Kd.R_reads' h.ro
  obtain ⟨e1, e2, e3⟩ := h1
  obtain ⟨f1, f2, f3⟩ := h2
  subst e1
  subst f1
  exact asked_any g w.heap.size most S An cn Ao co (most : Int) kind height n ks kn kd v X h.sk e3 e2 f3 f2 hwf
end
set_option maxHeartbeats 16000000 in
set_option maxRecDepth 100000 in
theorem plays_bad (most : Int) (hb : most < 1 ∨ 1048576 < most) (A : Option Addr) (c n : Nat) (w : World) :
    Calls Try.prog 8 #[.int .i64 most, .slice A n c] w fun e w' => e = .returned (.bool true) ∧ Below w.heap.size w w' := by
  have HN := Aside0.mk (sk_new_bad most w hb)
  have HR := Aside0.mk (show moraineref08_New.f most = some (0, [], [], 2) by
    unfold moraineref08_New.f
    by_cases h1 : most < 1
    · rw [if_pos h1]
    · rw [if_neg h1, if_pos (show most > 1048576 by omega)])
  clear hb
  go_enter Try.func8, Try.ntmps8
  go_wp2_with fail
  (with_reducible refine HN.out.mono ?_)
  rintro e w1 ⟨rfl, hb⟩
  have HB := Aside0.mk hb
  clear hb HN
  go_wp2_with fail
  (with_reducible refine (moraineref08_New.calls most 0 [] [] 2 w1 HR.out).mono ?_)
  rintro e w2 ⟨v1, v2, rfl, hrn, hro, hb⟩
  obtain ⟨An, cn, rfl, _, _⟩ := Kd.R_reads hrn
  obtain ⟨Ao, co, rfl, _, _⟩ := Kd.R_reads hro
  obtain ⟨W2, hW2⟩ : ∃ W2, w2.alloc (.cells #[.int .i64 0, .slice An 0 cn, .slice Ao 0 co] 30) = W2 := ⟨_, rfl⟩
  have HB := Aside0.mk (below_step (below_step HB.out hb) (show Below w2.heap.size w2 W2 by rw [← hW2]; exact below_alloc (Below.refl _ _) _))
  have HW2 := Aside0.mk hW2
  clear hb hrn hro HR hW2
  go_wp2_with fail
  rw [HW2.out]
  (with_reducible refine (morainelaw08_names.calls true _ rfl).mono ?_)
  rintro e w3 ⟨rfl, hd⟩
  have HB := Aside0.mk (below_step HB.out hd.below)
  have HN1 := Aside0.mk (sk_new 1 w3 (by decide) (by decide))
  rw [show ((1 : Nat) : Int) = 1 from rfl] at HN1
  clear hd HW2
  go_wp2_with fail
  (with_reducible refine HN1.out.mono ?_)
  rintro e w4 ⟨g, rfl, _, hb⟩
  have HB := Aside0.mk (below_step HB.out hb)
  clear hb HN1
  go_wp2
  go_ret
  exact ⟨by simp, HB.out⟩
set_option maxHeartbeats 32000000 in
set_option maxRecDepth 100000 in
theorem plays_calls (most : Nat) (hm1 : 1 ≤ most) (hm2 : most ≤ 1048576) (A : Option Addr) (c : Nat) (l : List Act08) (w : World) (hr : Kd.C ActK w A l.length l) (hc : l.length ≤ c) (hlen : l.length ≤ 1048576) (hwf : ∀ x ∈ l, wrap64 x.2.2.1 = x.2.2.1) :
    Calls Try.prog 8 #[.int .i64 (most : Int), .slice A l.length c] w fun e w' => e = .returned (.bool true) ∧ Below w.heap.size w w' := by
  have HR0 := Aside0.mk hr
  have HC0 := Aside0.mk hc
  have HWF := Aside0.mk hwf
  obtain ⟨m, hm⟩ : ∃ m, l.length = m := ⟨_, rfl⟩
  have HM := Aside0.mk hm
  rw [hm] at hlen
  rw [hm]
  obtain ⟨mo, hmo⟩ : ∃ mo : Int, (most : Int) = mo := ⟨_, rfl⟩
  have HMO := Aside0.mk hmo
  have HN := Aside0.mk (sk_new most w hm1 hm2)
  have HRN := Aside0.mk (show moraineref08_New.f (most : Int) = some ((most : Int), [], [], 0) by
    unfold moraineref08_New.f
    rw [if_neg (show ¬ (most : Int) < 1 by omega), if_neg (show ¬ (most : Int) > 1048576 by omega)])
  have HM2 := Aside0.mk hm2
  rw [hmo] at HN HRN ⊢
  clear hr hc hwf hm hmo hm1 hm2
  go_enter Try.func8, Try.ntmps8
  go_wp2_with fail
  (with_reducible refine HN.out.mono ?_)
  rintro e w1 ⟨g, rfl, hsk, hb⟩
  have HB := Aside0.mk hb
  have HSK := Aside0.mk hsk
  clear hb hsk HN
  go_wp2_with fail
  (with_reducible refine (moraineref08_New.calls mo mo [] [] 0 w1 HRN.out).mono ?_)
  rintro e w2 ⟨v1, v2, rfl, hrn, hro, hb⟩
  obtain ⟨An, cn, rfl, _, _⟩ := Kd.R_reads hrn
  obtain ⟨Ao, co, rfl, _, _⟩ := Kd.R_reads hro
  obtain ⟨W2, hW2⟩ : ∃ W2, w2.alloc (.cells #[.int .i64 mo, .slice An 0 cn, .slice Ao 0 co] 30) = W2 := ⟨_, rfl⟩
  have hba : Below w2.heap.size w2 W2 := by rw [← hW2]; exact below_alloc (Below.refl _ _) _
  have HWP := Aside0.mk (show WP w W2 g w2.heap.size most An 0 cn Ao 0 co SL.nil SL.nil from
    ⟨below_step (below_step HB.out hb) hba, by rw [HMO.out, ← hW2]; exact blk_new w2 _, (below_step HB.out hb).size,
      R_only (Kd.R_lower (Kd.R_below hrn hba) HB.out.size) (fun _ _ _ _ _ _ h => M45 _ _ _ _ _ _ _ _ h), R_only (Kd.R_lower (Kd.R_below hro hba) HB.out.size) (fun _ _ _ _ _ _ h => h), (HSK.out.below hb).below hba⟩)
  obtain ⟨B7, hB7⟩ : ∃ B7, w2.heap.size = B7 := ⟨_, rfl⟩
  rw [hB7] at HWP
  have HB7 := Aside0.mk hB7
  have HW2 := Aside0.mk hW2
  clear hrn hro hb hba hW2 hB7 HB HSK HRN
  go_wp2_with fail
  rw [HW2.out, HB7.out]
  (with_reducible refine (morainelaw08_names.calls true _ rfl).mono ?_)
  rintro e w3 ⟨rfl, hd⟩
  have HWP := Aside0.mk (HWP.out.later hd.below)
  clear hd HW2 HB7
  go_wp2_with fail
  go_loopg [8, 11, 12, 13] (1 + m) (fun kq v8 v11 v12 v13 wr => ∃ (i : Nat) (S : SL ByteArray) (An : Option Addr) (nn cn : Nat) (Ao : Option Addr) (no co : Nat), v11 = .int .i64 (i : Int) ∧ i ≤ m ∧ m - i < kq ∧ Aside0 (S.nodes.length ≤ i) ∧ Aside0 (WP w wr g B7 most An nn cn Ao no co S S))
  case atStart => exact ⟨0, SL.nil, _, _, _, _, _, _, rfl, Nat.zero_le _, by omega, ⟨Nat.le_refl _⟩, HWP⟩
  case round =>
    clear HWP
    obtain ⟨i, S, An, nn, cn, Ao, no, co, rfl, him, hkq, HSL, HWP⟩ := hrel
    cases gk with
    | zero => omega
    | succ gk1 =>
    by_cases hi : i < m
    · have b1 : decide ((i : Int) < (m : Int)) = true := decide_eq_true (by omega)
      have b1n : decide (i < m) = true := decide_eq_true hi
      obtain ⟨ad, x, hA, hx, f0, f1, f2, f3, f4, f5, f6⟩ := at_act (Kd.C_below HR0.out HWP.out.below) i (by rw [HM.out]; exact hi)
      subst hA
      have HWN := Aside0.mk (HWF.out x (List.mem_of_getElem? hx))
      obtain ⟨xk, xh, xn, ⟨ks, kn, kd⟩, xv⟩ := x
      dsimp only at f0 f1 f2 f3 f4 f5 f6 HWN
      obtain ⟨ak, hak⟩ : ∃ j, morainelaw08_among.f xk 8 = some j := ⟨_, if_neg (by decide)⟩
      have HAK := Aside0.mk hak
      obtain ⟨W4, hW4⟩ : ∃ W4, wr.alloc (.cells #[.int .i64 xk, .int .i64 xh, .int .i64 xn, .string ks, .int .u64 kn, .int .i64 kd, .string xv] 72) = W4 := ⟨_, rfl⟩
      have hba : Below wr.heap.size wr W4 := by rw [← hW4]; exact below_alloc (Below.refl _ _) _
      have hx4 : W4.heap[wr.heap.size]? = some (.cells #[.int .i64 xk, .int .i64 xh, .int .i64 xn, .string ks, .int .u64 kn, .int .i64 kd, .string xv] 72 (0, 0)) := by rw [← hW4]; exact blk_new wr _
      have y0 := (blk_cell hx4 0).trans (show _ = some (.int .i64 xk) from rfl)
      rw [← hW4] at y0
      have HWP := Aside0.mk (HWP.out.later hba)
      obtain ⟨B12, hB12⟩ : ∃ b, wr.heap.size = b := ⟨_, rfl⟩
      rw [hB12] at hx4
      have HX := Aside0.mk hx4
      have HW4 := Aside0.mk hW4
      have HB12 := Aside0.mk hB12
      have him2 : (i : Int) ≤ 1048576 := by omega
      clear hx hak hba hx4 hW4 hB12
      go_wp2_with fail
      rw [HW4.out, HB12.out]
      (with_reducible refine (morainelaw08_among.calls xk 8 ak _ HAK.out).mono ?_)
      rintro e w5 ⟨rfl, hd⟩
      have HWP := Aside0.mk (HWP.out.later hd.below)
      have HX := Aside0.mk (blk_below HX.out hd.below)
      have g0 : w5.cell? ⟨B12, 0, none⟩ = some (.int .i64 xk) := (blk_cell HX.out 0).trans rfl
      have g1 : w5.cell? ⟨B12, 1, none⟩ = some (.int .i64 xh) := (blk_cell HX.out 1).trans rfl
      have g2 : w5.cell? ⟨B12, 2, none⟩ = some (.int .i64 xn) := (blk_cell HX.out 2).trans rfl
      have g3 : w5.cell? ⟨B12, 3, none⟩ = some (.string ks) := (blk_cell HX.out 3).trans rfl
      have g4 : w5.cell? ⟨B12, 4, none⟩ = some (.int .u64 kn) := (blk_cell HX.out 4).trans rfl
      have g5 : w5.cell? ⟨B12, 5, none⟩ = some (.int .i64 kd) := (blk_cell HX.out 5).trans rfl
      have g6 : w5.cell? ⟨B12, 6, none⟩ = some (.string xv) := (blk_cell HX.out 6).trans rfl
      have r0 : w5.cell? ⟨B7, 0, none⟩ = some (.int .i64 mo) := by rw [← HMO.out]; exact (blk_cell HWP.out.ref 0).trans rfl
      have r1 : w5.cell? ⟨B7, 1, none⟩ = some (.slice An nn cn) := (blk_cell HWP.out.ref 1).trans rfl
      have r2 : w5.cell? ⟨B7, 2, none⟩ = some (.slice Ao no co) := (blk_cell HWP.out.ref 2).trans rfl
      have HIM := Aside0.mk (show i + 1 ≤ m by omega)
      have HKQ := Aside0.mk (show m - (i + 1) < gk1 by omega)
      clear hd y0 HW4 HB12 HAK f0 f1 f2 f3 f4 f5 f6
      by_cases ha : ak = 0
      · have b2 : (ak != 0) = false := by simp [ha]
        have hsl := HSL.out
        have HIN := Aside0.mk (sk_insert g w.heap.size most S (ks, kn, kd) xv xh w5 HWP.out.sk)
        have HREF := Aside0.mk (rinsert_eq (V := ByteArray) id HWP.out.sk.fine.1 HWP.out.sk.fine.2.1 most HM2.out (ks, kn, kd) xv xh 2097152 (by omega))
        rw [show id xv = xv from rfl, HMO.out] at HREF
        have HSL2 := Aside0.mk (show (insS S most (ks, kn, kd) xv xh).nodes.length ≤ i + 1 by
          unfold insS
          split
          · simp [SL.put]; omega
          · omega)
        obtain ⟨ic, hic⟩ : ∃ ic, insC S most (ks, kn, kd) xh = ic := ⟨_, rfl⟩
        obtain ⟨S2, hS2⟩ : ∃ S2, insS S most (ks, kn, kd) xv xh = S2 := ⟨_, rfl⟩
        rw [hic, hS2] at HIN HREF
        rw [hS2] at HSL2
        rw [show encV_ xv = .string xv from rfl] at HIN
        clear ha hsl hic hS2 HSL
        go_wp2_with fail
        (with_reducible refine HIN.out.mono ?_)
        rintro e w6 ⟨rfl, hsk, hb, hk⟩
        have HX := Aside0.mk (turns_blk hk HWP.out.sk HX.out (by decide) (by decide))
        have HWP6 := Aside0.mk (show WP w w6 g B7 most An nn cn Ao no co S S2 from HWP.out.turned hk hb hsk)
        clear hsk hb hk HIN g0 g1 g2 g3 g4 g5 g6 r0 r1 r2
        have g1 : w6.cell? ⟨B12, 1, none⟩ = some (.int .i64 xh) := (blk_cell HX.out 1).trans rfl
        have g3 : w6.cell? ⟨B12, 3, none⟩ = some (.string ks) := (blk_cell HX.out 3).trans rfl
        have g4 : w6.cell? ⟨B12, 4, none⟩ = some (.int .u64 kn) := (blk_cell HX.out 4).trans rfl
        have g5 : w6.cell? ⟨B12, 5, none⟩ = some (.int .i64 kd) := (blk_cell HX.out 5).trans rfl
        have g6 : w6.cell? ⟨B12, 6, none⟩ = some (.string xv) := (blk_cell HX.out 6).trans rfl
        have r0 : w6.cell? ⟨B7, 0, none⟩ = some (.int .i64 mo) := by rw [← HMO.out]; exact (blk_cell HWP6.out.ref 0).trans rfl
        have r1 : w6.cell? ⟨B7, 1, none⟩ = some (.slice An nn cn) := (blk_cell HWP6.out.ref 1).trans rfl
        have r2 : w6.cell? ⟨B7, 2, none⟩ = some (.slice Ao no co) := (blk_cell HWP6.out.ref 2).trans rfl
        go_wp2_with fail
        (with_reducible refine (moraineref08_List_Insert.calls 2097152 mo (fun q => (Value.slice An nn cn).ownBlock = some q) (.slice An nn cn) (nodesR id S) (fun q => (Value.slice Ao no co).ownBlock = some q) (.slice Ao no co) (ordR S) ks kn kd xv xh mo (nodesR id S2) (ordR S2) ic w w6 HWP6.out.below HWP6.out.rn HWP6.out.ro HREF.out).mono ?_)
        rintro e w7 ⟨v1, v2, rfl, hrn, hro, hb, hk⟩
        obtain ⟨An2, cn2, rfl, _, _⟩ := Kd.R_reads hrn
        obtain ⟨Ao2, co2, rfl, _, _⟩ := Kd.R_reads hro
        obtain ⟨nn2, hnn2⟩ : ∃ n, (nodesR id S2).length = n := ⟨_, rfl⟩
        obtain ⟨no2, hno2⟩ : ∃ n, (ordR S2).length = n := ⟨_, rfl⟩
        rw [hnn2] at hrn ⊢
        rw [hno2] at hro ⊢
        have HRF := Aside0.mk (fun Z hZ => HWP6.out.reffed hk hb hrn hro (Z := Z) hZ)
        rw [HMO.out] at HRF
        have h9 := (HWP6.out.keep hk HWP6.out.ref (by decide) (by decide)).trans HWP6.out.ref
        have t0 : w7.cell? ⟨B7, 0, none⟩ = some (.int .i64 (most : Int)) := (blk_cell h9 0).trans rfl
        have t1 : w7.cell? ⟨B7, 1, none⟩ = some (.slice An nn cn) := (blk_cell h9 1).trans rfl
        have t2 : w7.cell? ⟨B7, 2, none⟩ = some (.slice Ao no co) := (blk_cell h9 2).trans rfl
        have t3 := blk_frozen h9 0
        have t4 := blk_frozen h9 1
        have t5 := blk_frozen h9 2
        have b3 : (ic != ic) = false := by simp
        clear hrn hro hb hk h9 hnn2 hno2 g1 g3 g4 g5 g6 r0 r1 r2
        go_wp2
        generalize hZ : ((w7.setCell _ _).setCell _ _).setCell _ _ = w8
        have HWP8 := Aside0.mk (HRF.out w8 hZ)
        clear hZ HRF
        go_roundg gk1
        case measure => have := HKQ.out; omega
        case rel => exact ⟨i + 1, S2, _, _, _, _, _, _, by go_num, HIM.out, HKQ.out, HSL2, HWP8⟩
      · have b2 : (ak != 0) = true := by simp [ha]
        have HASK := Aside0.mk (HWP.out.asked xk xh xn ks kn kd xv HWN.out)
        rw [HMO.out] at HASK
        clear ha
        go_wp2_with fail
        (with_reducible refine HASK.out.mono ?_)
        rintro e w6 ⟨rfl, hb⟩
        have HWP := Aside0.mk (HWP.out.later hb)
        have HSL2 := Aside0.mk (show S.nodes.length ≤ i + 1 by have := HSL.out; omega)
        clear hb g0 g1 g2 g3 g4 g5 g6 r0 r1 r2
        go_wp2
        go_roundg gk1
        case measure => have := HKQ.out; omega
        case rel => exact ⟨i + 1, S, _, _, _, _, _, _, by go_num, HIM.out, HKQ.out, HSL2, HWP⟩
    · obtain rfl : i = m := by omega
      have b1 : decide ((i : Int) < (i : Int)) = false := decide_eq_false (by omega)
      have b1n : decide (i < i) = false := decide_eq_false (by omega)
      clear hkq him
      have hsl := HSL.out
      obtain ⟨ln, hln⟩ : ∃ x : Int, ((S.nodes.length : Nat) : Int) = x := ⟨_, rfl⟩
      have HLEN := Aside0.mk (fun W (h : SkAt W g w.heap.size S most) => ask_len g w.heap.size most S W h)
      rw [hln] at HLEN
      have HQW := Aside0.mk (show wrap64 (wrap64 (Int.tdiv ln 2)) = wrap64 (Int.tdiv ln 2) by generalize Int.tdiv ln 2 = x; unfold wrap64; omega)
      clear hsl HSL hln
      go_wp2_with fail
      go_loopg [14] 9 (fun kq v14 wr => ∃ (k : Nat), v14 = .int .i64 (k : Int) ∧ k ≤ 8 ∧ 8 - k < kq ∧ Aside0 (WP w wr g B7 most An nn cn Ao no co S S))
      case atStart => exact ⟨1, rfl, by omega, by omega, HWP⟩
      case round =>
        clear HWP
        obtain ⟨k, rfl, hk8, hkq, HWP⟩ := hrel
        cases gk with
        | zero => omega
        | succ gk1 =>
        by_cases hlt : k < 8
        · have b1 : decide ((k : Int) < 8) = true := decide_eq_true (by omega)
          have b1n : decide (k < 8) = true := decide_eq_true hlt
          have r0 : wr.cell? ⟨B7, 0, none⟩ = some (.int .i64 mo) := by rw [← HMO.out]; exact (blk_cell HWP.out.ref 0).trans rfl
          have r1 : wr.cell? ⟨B7, 1, none⟩ = some (.slice An nn cn) := (blk_cell HWP.out.ref 1).trans rfl
          have r2 : wr.cell? ⟨B7, 2, none⟩ = some (.slice Ao no co) := (blk_cell HWP.out.ref 2).trans rfl
          have HASK := Aside0.mk (fun W (h : WP w W g B7 most An nn cn Ao no co S S) => h.asked (k : Int) 0 (wrap64 (Int.tdiv ln 2)) ⟨#[]⟩ 0 0 ⟨#[]⟩ HQW.out)
          rw [HMO.out] at HASK
          have HIM := Aside0.mk (show k + 1 ≤ 8 by omega)
          have HKQ := Aside0.mk (show 8 - (k + 1) < gk1 by omega)
          clear hkq hk8
          go_wp2_with fail
          refine start_ (n := 9) (S := fun w' => w'.cell? ⟨B7, 0, none⟩ = some (.int .i64 mo) ∧ w'.cell? ⟨B7, 1, none⟩ = some (.slice An nn cn) ∧ w'.cell? ⟨B7, 2, none⟩ = some (.slice Ao no co)) (ds := []) #[false, false, false, false, false, false, false, false, false] (by kernel_rfl) rfl rfl ⟨r0, r1, r2⟩ (fun hHeld => ?_)
          refine pure_ (i := 0) (N := some 96) (v := ?_) (a' := ?_) #[true, false, false, false, false, false, false, false, false] rfl rfl (by kernel_rfl) (fun _ _ _ h => h) (Or.inl ⟨by rfl, ?_⟩) ?_ ?_
          rotate_left
          · intro w'
            go_simp
            with_reducible rfl
          rotate_left
          · simp only [Act.put, List.setIfInBounds_toArray, List.set_cons_zero, List.set_cons_succ, i64_w, i32_w]
            rfl
          refine pure_ (i := 2) (N := some 98) (v := ?_) (a' := ?_) #[true, false, true, false, false, false, false, false, false] rfl rfl (by kernel_rfl) (fun _ _ _ h => h) (Or.inl ⟨by rfl, ?_⟩) ?_ ?_
          rotate_left
          · intro w'
            go_simp
            with_reducible rfl
          rotate_left
          · simp only [Act.put, List.setIfInBounds_toArray, List.set_cons_zero, List.set_cons_succ, i64_w, i32_w]
            rfl
          refine pure_ (i := 3) (N := some 99) (v := ?_) (a' := ?_) #[true, false, true, true, false, false, false, false, false] rfl rfl (by kernel_rfl) (fun _ _ _ h => h) (Or.inl ⟨by rfl, ?_⟩) ?_ ?_
          rotate_left
          · intro w'
            go_simp
            with_reducible rfl
          rotate_left
          · simp only [Act.put, List.setIfInBounds_toArray, List.set_cons_zero, List.set_cons_succ, i64_w, i32_w]
            rfl
          refine take_ (i := 1) (N := some 97) (v := ?_) (a' := ?_) #[true, true, true, true, false, false, false, false, false] rfl rfl (by kernel_rfl) (fun _ _ _ h => h) (Or.inl ⟨by rfl, ?_⟩) hHeld ?_ ?_
          rotate_left
          · rintro w' ⟨s0, s1, s2⟩
            go_simp
            with_reducible rfl
          rotate_left
          · simp only [Act.put, List.setIfInBounds_toArray, List.set_cons_zero, List.set_cons_succ, i64_w, i32_w]
            rfl
          refine one_ (i := 4) (N := some 100) #[true, true, true, true, true, false, false, false, false] rfl rfl (by kernel_rfl) (by decide) (fun K hK => ?_)
          refine goes_ Try.func37 (by kernel_rfl) rfl #[.pointer (some ⟨g, 0, none⟩)] (by rfl) rfl rfl (by simp only [List.map_toArray, List.map_cons, List.map_nil]; rfl) ?_
          with_reducible refine (HLEN.out _ (HWP.out.sk.below (below_drew1 (Below.refl _ _)))).mono ?_
          rintro e wa ⟨rfl, hb⟩
          refine ⟨_, rfl, ?_⟩
          have HWPa := Aside0.mk (HWP.out.later (below_step (below_drew1 (Below.refl _ _)) hb))
          have HBa := Aside0.mk (show Below wr.heap.size wr wa from below_step (below_drew1 (Below.refl _ _)) hb)
          clear hb
          refine hK.out _ _ ⟨pw_cell_below HBa.out r0, pw_cell_below HBa.out r1, pw_cell_below HBa.out r2⟩ (fun hHeld => ?_)
          clear hK K
          refine norm_ (a' := ?_) ?_ ?_
          rotate_left
          · show Act.put _ (some 100) _ = _
            simp only [Act.put, List.setIfInBounds_toArray, List.set_cons_zero, List.set_cons_succ, i64_w, i32_w]
            rfl
          refine pure_ (i := 5) (N := some 101) (v := ?_) (a' := ?_) #[true, true, true, true, true, true, false, false, false] rfl rfl (by kernel_rfl) (fun _ _ _ h => h) (Or.inl ⟨by rfl, ?_⟩) ?_ ?_
          rotate_left
          · intro w'
            go_simp
            with_reducible rfl
          rotate_left
          · simp only [Act.put, List.setIfInBounds_toArray, List.set_cons_zero, List.set_cons_succ, i64_w, i32_w]
            rfl
          refine pure_ (i := 6) (N := some 102) (v := ?_) (a' := ?_) #[true, true, true, true, true, true, true, false, false] rfl rfl (by kernel_rfl) (fun _ _ _ h => h) (Or.inl ⟨by rfl, ?_⟩) ?_ ?_
          rotate_left
          · intro w'
            go_simp
            with_reducible rfl
          rotate_left
          · simp only [Act.put, List.setIfInBounds_toArray, List.set_cons_zero, List.set_cons_succ, i64_w, i32_w]
            rfl
          refine one_ (i := 7) (N := some 103) #[true, true, true, true, true, true, true, true, false] rfl rfl (by kernel_rfl) (by decide) (fun K hK => ?_)
          refine goes_ Try.func35 (by kernel_rfl) rfl #[.pointer (some ⟨g, 0, none⟩), .agg #[.int .i64 mo, .slice An nn cn, .slice Ao no co], .agg #[.int .i64 (k : Int), .int .i64 0, .int .i64 (wrap64 (Int.tdiv ln 2)), .string ⟨#[]⟩, .int .u64 0, .int .i64 0, .string ⟨#[]⟩]] (by rfl) rfl rfl (by simp only [List.map_toArray, List.map_cons, List.map_nil]; rfl) ?_
          with_reducible refine (HASK.out _ HWPa.out).mono ?_
          rintro e wb ⟨rfl, hb⟩
          refine ⟨_, rfl, ?_⟩
          have HWPb := Aside0.mk (HWPa.out.later hb)
          have HBb := Aside0.mk (show Below wr.heap.size wr wb from below_step HBa.out hb)
          clear hb
          refine hK.out _ _ ⟨pw_cell_below HBb.out r0, pw_cell_below HBb.out r1, pw_cell_below HBb.out r2⟩ (fun hHeld => ?_)
          clear hK K
          refine norm_ (a' := ?_) ?_ ?_
          rotate_left
          · show Act.put _ (some 103) _ = _
            simp only [Act.put, List.setIfInBounds_toArray, List.set_cons_zero, List.set_cons_succ, i64_w, i32_w]
            rfl
          refine pure_ (i := 8) (N := some 104) (v := ?_) (a' := ?_) #[true, true, true, true, true, true, true, true, true] rfl rfl (by kernel_rfl) (fun _ _ _ h => h) (Or.inl ⟨by rfl, ?_⟩) ?_ ?_
          rotate_left
          · intro w'
            go_simp
            with_reducible rfl
          rotate_left
          · simp only [Act.put, List.setIfInBounds_toArray, List.set_cons_zero, List.set_cons_succ, i64_w, i32_w]
            rfl
          refine done_ (by kernel_rfl) ?_
          clear hHeld r0 r1 r2
          go_wp2
          go_roundg gk1
          case measure => have := HKQ.out; omega
          case rel => exact ⟨k + 1, by go_num, HIM.out, HKQ.out, HWPb⟩
        · obtain rfl : k = 8 := by omega
          have b1 : decide (((8 : Nat) : Int) < 8) = false := by decide
          clear hkq hk8
          go_wp2
          go_ret
          exact ⟨by simp, HWP.out.below⟩
theorem wf_wrap {x : Int} (h : (Lit.int .i64 x).wf = true) : wrap64 x = x := by
  have h2 : -9223372036854775808 ≤ x ∧ x ≤ 9223372036854775807 := by simpa [Lit.wf, IntKind.min, IntKind.max, IntKind.signed, IntKind.bits] using h
  unfold wrap64; omega
end St
theorem SkipPlays_upto (w : World) (a0 : Int) (hg0 : (Lit.int .i64 a0).wf = true) (A1 : Option Addr) (c1 : Nat) (l1 : List (Int × Int × Int × S37 × ByteArray)) (hc1 : l1.length ≤ c1) (hr1 : Kd.C (Kd.pair (Kd.int .i64) (Kd.pair (Kd.int .i64) (Kd.pair (Kd.int .i64) (Kd.pair k37 Kd.string)))) w A1 l1.length l1) (hg1 : ∀ x ∈ l1, (Lit.int .i64 x.1).wf = true ∧ (Lit.int .i64 x.2.1).wf = true ∧ (Lit.int .i64 x.2.2.1).wf = true ∧ (x.2.2.2.1.f0.size ≤ maxLen ∧ (Lit.int .u64 x.2.2.2.1.f1).wf = true ∧ (Lit.int .i64 x.2.2.2.1.f2).wf = true) ∧ x.2.2.2.2.size ≤ maxLen)
    (hbulk : 1 + (sumBulk (fun x : Int × Int × Int × S37 × ByteArray => 1 + 1 + 1 + (x.2.2.2.1.f0.size + 1 + 1 + 1 + 1) + (x.2.2.2.2.size + 1) + 1) l1 + 1) ≤ 1048576) :
    Calls Try.prog 8 #[.int .i64 a0, .slice A1 l1.length c1] w fun e w' => e = .returned (.bool true) ∧ Below w.heap.size w w' := by
  have hlen := sumBulk_len (fun x : Int × Int × Int × S37 × ByteArray => 1 + 1 + 1 + (x.2.2.2.1.f0.size + 1 + 1 + 1 + 1) + (x.2.2.2.2.size + 1) + 1) (fun _ => by omega) l1
  by_cases hb : a0 < 1 ∨ 1048576 < a0
  · exact St.plays_bad a0 hb A1 c1 l1.length w
  · obtain ⟨m, rfl⟩ := Int.eq_ofNat_of_zero_le (show 0 ≤ a0 by omega)
    exact St.plays_calls m (by omega) (by omega) A1 c1 l1 w hr1 hc1 (by omega) (fun x hx => St.wf_wrap (hg1 x hx).2.2.1)

end Go.Proofs.Ytehfcafmdnfamaa.G
