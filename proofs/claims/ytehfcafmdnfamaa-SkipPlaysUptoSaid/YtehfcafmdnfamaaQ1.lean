/- Contracts of functions and plain laws, several texts of the session put together by its program. -/
import Derived.Test.YtehfcafmdnfamaaProg
import Derived.Below
import Derived.Deep.Draws
import Derived.Deep.AppendLies
import Derived.Maps.AppendAt
import Derived.OwnWalk
import Derived.Laws.BytesArg
import Derived.Laws.MakeOwn
import Derived.Laws.OwnMore
import Derived.Deep.OwnRows
import Derived.Tactics
import Derived.Lib.ConvBytes
import Derived.Laws.Slices
import Derived.WalkKit
import Derived.KernelRfl
import Derived.RowKit3
import Derived.Deep.LoopGhost
import Derived.Deep.QuietTactic
import Derived.BigQuiet
import Derived.WideLaws
import Derived.Deep.DeepCutAuto
import Derived.Deep.CutBlock
import Derived.Deep.RegionHeld3
import Derived.Laws.Rows
import Derived.Lib.AppendStr
import Derived.ArgAppend
import Derived.Laws.IdiomCopy
import Derived.OrdersHeld
import Derived.Laws.BitsLemmas
import Derived.RowKit
import Derived.Test.YtehfcafmdnfamaaWVWords
import Derived.Test.YtehfcafmdnfamaaWVLast
import Derived.Test.YtehfcafmdnfamaaWVTab
import Derived.Test.YtehfcafmdnfamaaWVFour
import Derived.Test.YtehfcafmdnfamaaWVQPut
import Derived.Test.YtehfcafmdnfamaaWVApart
import Derived.Test.YtehfcafmdnfamaaWVArr
import Derived.Test.YtehfcafmdnfamaaWVZeros
import Derived.Test.YtehfcafmdnfamaaWVFoot
import Derived.Test.YtehfcafmdnfamaaWVKept
import Derived.Test.YtehfcafmdnfamaaWVShare
import Derived.Test.YtehfcafmdnfamaaWVN
import Derived.Test.YtehfcafmdnfamaaWVFootNe
import Derived.Test.YtehfcafmdnfamaaWVAt
import Derived.Test.YtehfcafmdnfamaaWVEqStruct
import Derived.Test.YtehfcafmdnfamaaWVRepsOne
import Derived.Test.YtehfcafmdnfamaaWVInv
import Derived.Test.YtehfcafmdnfamaaWVInvWords
import Derived.Test.YtehfcafmdnfamaaWVGuard
import Derived.Test.YtehfcafmdnfamaaWVNEv
import Derived.Test.YtehfcafmdnfamaaWVMore
import Derived.Test.YtehfcafmdnfamaaQ0

/- Contracts typed by hand: a skiplist in memory (values: texts) -/
namespace Go.Proofs.Ytehfcafmdnfamaa.G
open Go.RowKit Go.Proofs.YtehfcafmdnfamaaW.PrintWords Go.Proofs.YtehfcafmdnfamaaW.PrintLast Go.Proofs.YtehfcafmdnfamaaW.PrintMore
attribute [local go_sem] max2_int min2_int max_two min_two max_three min_three max_four min_four
set_option linter.unusedVariables false
set_option linter.unusedSimpArgs false

/-! a skiplist in memory (values: texts) -/
namespace St
def encV_ (x : ByteArray) : Value := .string x
def encN (x : ND ByteArray) : List Value := [.string x.key.1, .int .u64 x.key.2.1, .int .i64 x.key.2.2, encV_ x.val, .int .i64 (x.ht : Int)] ++ x.next.map (fun z => .int .i32 (z : Int)) ++ [.int .i32 (x.prev : Int)]
theorem encN_len {x : ND ByteArray} (h : x.next.length = 12) : (encN x).length = 18 := by simp [encN, h]
theorem encN_one (x : ND ByteArray) : ∀ u ∈ encN x, u.oneCell' = true := by
  intro u hu
  unfold encN at hu
  rcases List.mem_append.1 hu with hu | hu
  · rcases List.mem_append.1 hu with hu | hu
    · simp only [List.mem_cons, List.not_mem_nil, or_false] at hu
      rcases hu with rfl | rfl | rfl | rfl | rfl <;> rfl
    · obtain ⟨z, _, rfl⟩ := List.mem_map.1 hu
      rfl
  · rw [List.mem_singleton.1 hu]; rfl
def ndK : Kd (ND ByteArray) where
  sz := 18
  E := []
  K := fun _ x cs => x.next.length = 12 ∧ cs = encN x
  M := fun _ _ _ x cs => x.next.length = 12 ∧ cs = encN x
  K_len := fun h => by rw [h.2, encN_len h.1]
  K_one := fun h u hu => by
    rw [h.2] at hu
    exact encN_one _ u hu
  K_below := fun _ h => h
  K_of_M := fun h => h
  M_mono := fun _ h => h
  M_bound := fun h => h
  M_move := fun _ h => h
  M_lower := fun _ h => h
theorem encN_next (x : ND ByteArray) (j : Nat) (h : j < x.next.length) : (encN x)[5 + j]? = some (.int .i32 ((x.next.getD j 0 : Nat) : Int)) := by
  unfold encN
  rw [List.append_assoc, List.getElem?_append_right (by simp)]
  simp only [List.length_cons, List.length_nil]
  rw [show 5 + j - (0 + 1 + 1 + 1 + 1 + 1) = j by omega, List.getElem?_append_left (by simpa using h), List.getElem?_map, List.getElem?_eq_getElem h, List.getD_eq_getElem?_getD, List.getElem?_eq_getElem h]
  rfl
theorem encN_prev (x : ND ByteArray) (h : x.next.length = 12) : (encN x)[17]? = some (.int .i32 (x.prev : Int)) := by
  unfold encN
  rw [List.getElem?_append_right (by simp [h])]
  simp [h]
/-- a list in memory -/
def SkAt (w : World) (g base : Nat) (S : SL ByteArray) (most : Nat) : Prop :=
  ∃ (b c : Nat) (ns : List (ND ByteArray)), w.heap[g]? = some (.cells #[.slice (some ⟨b, 0, none⟩) ns.length c, .int .i64 (most : Int), .int .i64 (S.height : Int), .int .i64 ((lastOf S.order : Nat) : Int)] 95 (0, 0)) ∧
    Kd.R ndK 101 w base (fun _ => True) (.slice (some ⟨b, 0, none⟩) ns.length c) ns ∧ Mem S ns ∧ S.Fine ∧ base ≤ g ∧ S.nodes.length ≤ most ∧ most ≤ 1048576
theorem SkAt.lt {w : World} {g base : Nat} {S : SL ByteArray} {most : Nat} (h : SkAt w g base S most) : g < w.heap.size := by
  obtain ⟨b, c, ns, h1, _⟩ := h
  exact blk_lt h1
theorem SkAt.fine {w : World} {g base : Nat} {S : SL ByteArray} {most : Nat} (h : SkAt w g base S most) : S.Fine ∧ S.nodes.length ≤ 1048576 ∧ S.nodes.length ≤ most := by
  obtain ⟨b, c, ns, _, _, _, h4, _, h6, h7⟩ := h
  exact ⟨h4, by omega, h6⟩
theorem SkAt.below {w w1 : World} {g base : Nat} {S : SL ByteArray} {most : Nat} (h : SkAt w g base S most) (hb : Below w.heap.size w w1) : SkAt w1 g base S most := by
  obtain ⟨b, c, ns, h1, h2, h3⟩ := h
  exact ⟨b, c, ns, (hb.block g (blk_lt h1)).trans h1, Kd.R_below h2 hb, h3⟩
theorem SkAt.drewN {w : World} {g base : Nat} {S : SL ByteArray} {most : Nat} (h : SkAt w g base S most) (n : Nat) : SkAt (w.drewN n) g base S most := h.below (pw_below_drewN (Below.refl _ _) n)
/-- a node's cells -/
theorem node_cells {w : World} {base b n c : Nat} {ns : List (ND ByteArray)} (h : Kd.R ndK 101 w base (fun _ => True) (.slice (some ⟨b, 0, none⟩) n c) ns) (z : Nat) (hz : z < n) : ∃ x, ns[z]? = some x ∧ x.next.length = 12 ∧ (∀ j u, (encN x)[j]? = some u → w.cell? ⟨b, z * 18 + j, none⟩ = some u) ∧ ∀ j, w.frozen? ⟨b, z * 18 + j, none⟩ = false := by
  have hn := (Kd.R_reads' h).1
  have hl : z < ns.length := by omega
  obtain ⟨cs, h1, ⟨h2, h3⟩, h4, h5⟩ := Kd.R_elem h ⟨noK, (⟨#[]⟩ : ByteArray), 0, [], 0⟩ (z : Int) (by omega) (by omega)
  rw [Int.toNat_natCast] at h2 h3 h4 h5
  have hx : ns.getD z ⟨noK, (⟨#[]⟩ : ByteArray), 0, [], 0⟩ = ns[z] := by rw [List.getD_eq_getElem?_getD, List.getElem?_eq_getElem hl]; rfl
  rw [hx] at h2 h3
  exact ⟨ns[z], List.getElem?_eq_getElem hl, h2, fun j u hu => h4 j u (by rw [h3]; exact hu), h5⟩
/-- what a walk reads of a list -/
theorem SkAt.reads {w : World} {g base : Nat} {S : SL ByteArray} {most : Nat} (h : SkAt w g base S most) : ∃ (b c : Nat) (ns : List (ND ByteArray)), w.heap[g]? = some (.cells #[.slice (some ⟨b, 0, none⟩) (S.nodes.length + 1) c, .int .i64 (most : Int), .int .i64 (S.height : Int), .int .i64 ((lastOf S.order : Nat) : Int)] 95 (0, 0)) ∧
    (∀ z j, z < S.nodes.length + 1 → j < 12 → w.cell? ⟨b, z * 18 + (5 + j), none⟩ = some (.int .i32 ((nxtOf ns j z : Nat) : Int))) ∧ (∀ z, z < S.nodes.length + 1 → w.cell? ⟨b, z * 18 + 17, none⟩ = some (.int .i32 ((prvOf ns z : Nat) : Int))) ∧
    (∀ z, 1 ≤ z → z < S.nodes.length + 1 → w.cell? ⟨b, z * 18, none⟩ = some (.string (S.key z).1) ∧ w.cell? ⟨b, z * 18 + 1, none⟩ = some (.int .u64 (S.key z).2.1) ∧ w.cell? ⟨b, z * 18 + 2, none⟩ = some (.int .i64 (S.key z).2.2) ∧ ∃ x, S.nodes[z - 1]? = some x ∧ x.1 = S.key z ∧ w.cell? ⟨b, z * 18 + 3, none⟩ = some (encV_ x.2.1)) ∧ Mem S ns := by
  obtain ⟨b, c, ns, h1, h2, h3, _⟩ := h
  have hl := h3.len
  rw [hl] at h1 h2
  refine ⟨b, c, ns, h1, fun z j hz hj => ?_, fun z hz => ?_, fun z hz1 hz => ?_, h3⟩
  · obtain ⟨x, a1, a2, a3, _⟩ := node_cells h2 z hz
    have := a3 (5 + j) _ (encN_next x j (by omega))
    unfold nxtOf
    rw [a1]
    exact this
  · obtain ⟨x, a1, a2, a3, _⟩ := node_cells h2 z hz
    have := a3 17 _ (encN_prev x a2)
    unfold prvOf
    rw [a1]
    exact this
  · obtain ⟨x, a1, a2, a3, _⟩ := node_cells h2 z hz
    have hn := h3.node z x hz1 a1
    have hk : S.key z = x.key := by unfold SL.key; rw [hn]
    rw [hk]
    exact ⟨a3 0 _ rfl, a3 1 _ rfl, a3 2 _ rfl, _, hn, rfl, a3 3 _ rfl⟩
theorem sk_none (g base most : Nat) (S : SL ByteArray) (w : World) (h : SkAt w g base S most) : Calls Try.prog 74 #[.pointer (some ⟨g, 0, none⟩)] w fun e w' => e = .returned (.bool false) ∧ w = w' := by
  obtain ⟨b, c, ns, h1, _⟩ := h.reads
  have q := blk_cell h1 0
  have q0 : w.cell? ⟨g, 0, none⟩ = some (.slice (some ⟨b, 0, none⟩) (S.nodes.length + 1) c) := q.trans rfl
  have z0 : (((S.nodes.length + 1 : Nat) : Int) == 0) = false := by simp; omega
  have z1 : ((S.nodes.length + 1 : Nat) == 0) = false := by simp
  obtain ⟨n, hn⟩ : ∃ n, S.nodes.length + 1 = n := ⟨_, rfl⟩
  rw [hn] at q0 z0 z1
  clear h1 q h hn
  go_enter Try.func74, Try.ntmps74
  go_wp2
  go_ret
  exact ⟨rfl, rfl⟩
set_option maxHeartbeats 2000000 in
theorem sk_first (g base most : Nat) (S : SL ByteArray) (w : World) (h : SkAt w g base S most) : Calls Try.prog 68 #[.pointer (some ⟨g, 0, none⟩)] w fun e w' => e = .returned (.int .i64 ((S.order.headD 0 : Nat) : Int)) ∧ w = w' := by
  obtain ⟨b, c, ns, h1, h2, _, _, hM⟩ := h.reads
  have hf := h.fine
  have q0 : w.cell? ⟨g, 0, none⟩ = some (.slice (some ⟨b, 0, none⟩) (S.nodes.length + 1) c) := (blk_cell h1 0).trans rfl
  have q1 := h2 0 0 (by omega) (by omega)
  have e1 := hM.links.next 0 [] S.order (by omega) rfl (Or.inl rfl)
  rw [nx_zero (fun z hz => (S.ht_pos hf.1 hz).1)] at e1
  rw [show lastOf [] = 0 from rfl] at e1
  rw [e1] at q1
  obtain ⟨n, hn⟩ : ∃ n, S.nodes.length + 1 = n := ⟨_, rfl⟩
  obtain ⟨f, hff⟩ : ∃ f, S.order.headD 0 = f := ⟨_, rfl⟩
  rw [hn] at q0
  rw [hff] at q1 ⊢
  have hn1 : 0 < n := by omega
  have H := Aside0.mk h
  have hfb : f ≤ 1048576 := by
    rw [← hff]
    cases ho : S.order with
    | nil => exact Nat.zero_le _
    | cons a l => exact Nat.le_trans (hf.1.mem a (by rw [ho]; exact List.mem_cons_self ..)).2 hf.2.1
  have HW := Aside0.mk (show wrap64 (f : Int) = (f : Int) by unfold wrap64; omega)
  clear h1 h2 e1 hM hf hff h hn hfb
  go_enter Try.func68, Try.ntmps68
  go_wp2_with fail
  (with_reducible refine (sk_none g base most S _ H.out).mono ?_)
  rintro e w1 ⟨rfl, rfl⟩
  go_wp2
  go_ret
  exact ⟨by rw [HW.out]; rfl, rfl⟩
set_option maxHeartbeats 2000000 in
theorem sk_has (g base most : Nat) (S : SL ByteArray) (n : Int) (w : World) (h : SkAt w g base S most) : Calls Try.prog 83 #[.pointer (some ⟨g, 0, none⟩), .int .i64 n] w fun e w' => e = .returned (.bool (decide (1 ≤ n ∧ n ≤ (S.nodes.length : Int)))) ∧ w = w' := by
  obtain ⟨b, c, ns, h1, _⟩ := h.reads
  have hf := h.fine
  have q0 : w.cell? ⟨g, 0, none⟩ = some (.slice (some ⟨b, 0, none⟩) (S.nodes.length + 1) c) := (blk_cell h1 0).trans rfl
  obtain ⟨m, hm⟩ : ∃ m, S.nodes.length + 1 = m := ⟨_, rfl⟩
  have hd : decide (1 ≤ n ∧ n ≤ (S.nodes.length : Int)) = (decide (1 ≤ n) && decide (n < (m : Int))) := by
    rw [Bool.eq_iff_iff]; simp; omega
  rw [hd]
  rw [hm] at q0
  have H := Aside0.mk h
  clear h1 h hm hf hd
  by_cases c1 : 1 ≤ n
  · have b1 : decide (1 ≤ n) = true := decide_eq_true c1
    clear c1
    go_enter Try.func83, Try.ntmps83
    go_wp2_with fail
    (with_reducible refine (sk_none g base most S _ H.out).mono ?_)
    rintro e w1 ⟨rfl, rfl⟩
    go_wp2
    go_ret
    exact ⟨by rw [b1]; simp, rfl⟩
  · have b1 : decide (1 ≤ n) = false := decide_eq_false c1
    clear c1
    go_enter Try.func83, Try.ntmps83
    go_wp2_with fail
    (with_reducible refine (sk_none g base most S _ H.out).mono ?_)
    rintro e w1 ⟨rfl, rfl⟩
    go_wp2
    go_ret
    exact ⟨by rw [b1]; simp, rfl⟩
theorem beside_of {S : SL ByteArray} (hS : S.Fine) {ns : List (ND ByteArray)} (hM : Mem S ns) {a d : List Nat} {n : Nat} (ho : S.order = a ++ n :: d) : nxtOf ns 0 n = d.headD 0 ∧ prvOf ns n = lastOf a ∧ d.headD 0 ≤ S.nodes.length ∧ lastOf a ≤ S.nodes.length ∧ 1 ≤ n ∧ n ≤ S.nodes.length := by
  have hn := hS.mem n (by rw [ho]; simp)
  have e1 := hM.links.next 0 (a ++ [n]) d (by omega) (by rw [ho]; simp) (Or.inr (by rw [lastOf_snoc]; exact (S.ht_pos hS (by rw [ho]; simp)).1))
  rw [lastOf_snoc, nx_zero (fun z hz => (S.ht_pos hS (by rw [ho]; simp [hz])).1)] at e1
  refine ⟨e1, hM.links.prev a n d ho, ?_, ?_, hn.1, hn.2⟩
  · cases d with
    | nil => exact Nat.zero_le _
    | cons z d => exact (hS.mem z (by rw [ho]; simp)).2
  · by_cases ha : a = []
    · subst ha; exact Nat.zero_le _
    · exact (hS.mem _ (by rw [ho]; exact List.mem_append_left _ (lastOf_mem ha))).2
set_option maxHeartbeats 2000000 in
theorem sk_next (g base most : Nat) (S : SL ByteArray) (a d : List Nat) (n : Nat) (w : World) (h : SkAt w g base S most) (ho : S.order = a ++ n :: d) : Calls Try.prog 58 #[.pointer (some ⟨g, 0, none⟩), .int .i64 (n : Int)] w fun e w' => e = .returned (.int .i64 ((d.headD 0 : Nat) : Int)) ∧ w = w' := by
  obtain ⟨b, c, ns, h1, h2, h3, _, hM⟩ := h.reads
  have hf := h.fine
  obtain ⟨k1, k2, k3, k4, hn, hn2⟩ := beside_of hf.1 hM ho
  have q0 : w.cell? ⟨g, 0, none⟩ = some (.slice (some ⟨b, 0, none⟩) (S.nodes.length + 1) c) := (blk_cell h1 0).trans rfl
  have q1 := h2 n 0 (by omega) (by omega)
  rw [k1] at q1
  have hd : decide (1 ≤ (n : Int) ∧ (n : Int) ≤ (S.nodes.length : Int)) = true := decide_eq_true (by omega)
  have HH := Aside0.mk (sk_has g base most S (n : Int) w h)
  rw [hd] at HH
  obtain ⟨m, hm⟩ : ∃ m, S.nodes.length + 1 = m := ⟨_, rfl⟩
  rw [hm] at q0
  have hnm : n < m := by omega
  have hmb : m ≤ 1048577 := by omega
  obtain ⟨r, hr⟩ : ∃ r, d.headD 0 = r := ⟨_, rfl⟩
  rw [hr] at q1 ⊢
  have hrb : r ≤ 1048576 := by omega
  have HW := Aside0.mk (show wrap64 (r : Int) = (r : Int) by unfold wrap64; omega)
  clear h1 h2 h3 h hm hf hd hM k1 k2 k3 k4 hr hrb ho
  go_enter Try.func58, Try.ntmps58
  go_wp2_with fail
  (with_reducible refine HH.out.mono ?_)
  rintro e w1 ⟨rfl, rfl⟩
  go_wp2
  go_ret
  exact ⟨by rw [HW.out]; rfl, rfl⟩
set_option maxHeartbeats 2000000 in
theorem sk_prev (g base most : Nat) (S : SL ByteArray) (a d : List Nat) (n : Nat) (w : World) (h : SkAt w g base S most) (ho : S.order = a ++ n :: d) : Calls Try.prog 60 #[.pointer (some ⟨g, 0, none⟩), .int .i64 (n : Int)] w fun e w' => e = .returned (.int .i64 ((lastOf a : Nat) : Int)) ∧ w = w' := by
  obtain ⟨b, c, ns, h1, h2, h3, _, hM⟩ := h.reads
  have hf := h.fine
  obtain ⟨k1, k2, k3, k4, hn, hn2⟩ := beside_of hf.1 hM ho
  have q0 : w.cell? ⟨g, 0, none⟩ = some (.slice (some ⟨b, 0, none⟩) (S.nodes.length + 1) c) := (blk_cell h1 0).trans rfl
  have q1 := h3 n (by omega)
  rw [k2] at q1
  have hd : decide (1 ≤ (n : Int) ∧ (n : Int) ≤ (S.nodes.length : Int)) = true := decide_eq_true (by omega)
  have HH := Aside0.mk (sk_has g base most S (n : Int) w h)
  rw [hd] at HH
  obtain ⟨m, hm⟩ : ∃ m, S.nodes.length + 1 = m := ⟨_, rfl⟩
  rw [hm] at q0
  have hnm : n < m := by omega
  have hmb : m ≤ 1048577 := by omega
  obtain ⟨r, hr⟩ : ∃ r, lastOf a = r := ⟨_, rfl⟩
  rw [hr] at q1 ⊢
  have hrb : r ≤ 1048576 := by omega
  have HW := Aside0.mk (show wrap64 (r : Int) = (r : Int) by unfold wrap64; omega)
  clear h1 h2 h3 h hm hf hd hM k1 k2 k3 k4 hr hrb ho
  go_enter Try.func60, Try.ntmps60
  go_wp2_with fail
  (with_reducible refine HH.out.mono ?_)
  rintro e w1 ⟨rfl, rfl⟩
  go_wp2
  go_ret
  exact ⟨by rw [HW.out]; rfl, rfl⟩
set_option maxHeartbeats 2000000 in
theorem sk_len (g base most : Nat) (S : SL ByteArray) (w : World) (h : SkAt w g base S most) : Calls Try.prog 37 #[.pointer (some ⟨g, 0, none⟩)] w fun e w' => e = .returned (.int .i64 ((S.nodes.length : Nat) : Int)) ∧ w = w' := by
  obtain ⟨b, c, ns, h1, _⟩ := h.reads
  have hf := h.fine
  have q0 : w.cell? ⟨g, 0, none⟩ = some (.slice (some ⟨b, 0, none⟩) (S.nodes.length + 1) c) := (blk_cell h1 0).trans rfl
  have H := Aside0.mk h
  obtain ⟨m, hm⟩ : ∃ m, S.nodes.length = m := ⟨_, rfl⟩
  rw [hm] at q0 ⊢
  have hb : m ≤ 1048576 := by rw [← hm]; exact hf.2.1
  clear h1 h hf hm
  go_enter Try.func37, Try.ntmps37
  go_wp2_with fail
  (with_reducible refine (sk_none g base most S _ H.out).mono ?_)
  rintro e w1 ⟨rfl, rfl⟩
  go_wp2
  go_ret
  exact ⟨by first | rfl | (congr 2; omega) | simp, rfl⟩
set_option maxHeartbeats 2000000 in
theorem sk_height (g base most : Nat) (S : SL ByteArray) (w : World) (h : SkAt w g base S most) : Calls Try.prog 72 #[.pointer (some ⟨g, 0, none⟩)] w fun e w' => e = .returned (.int .i64 ((S.height : Nat) : Int)) ∧ w = w' := by
  obtain ⟨b, c, ns, h1, _⟩ := h.reads
  have hf := h.fine
  have q0 : w.cell? ⟨g, 2, none⟩ = some (.int .i64 ((S.height : Nat) : Int)) := (blk_cell h1 2).trans rfl
  have H := Aside0.mk h
  obtain ⟨m, hm⟩ : ∃ m, S.height = m := ⟨_, rfl⟩
  rw [hm] at q0 ⊢
  have hb : m ≤ 1048576 := by rw [← hm]; exact Nat.le_trans (S.height_le hf.1) (by decide)
  clear h1 h hf hm
  go_enter Try.func72, Try.ntmps72
  go_wp2_with fail
  (with_reducible refine (sk_none g base most S _ H.out).mono ?_)
  rintro e w1 ⟨rfl, rfl⟩
  go_wp2
  go_ret
  exact ⟨by first | rfl | (congr 2; omega) | simp, rfl⟩
set_option maxHeartbeats 2000000 in
theorem sk_last (g base most : Nat) (S : SL ByteArray) (w : World) (h : SkAt w g base S most) : Calls Try.prog 70 #[.pointer (some ⟨g, 0, none⟩)] w fun e w' => e = .returned (.int .i64 ((lastOf S.order : Nat) : Int)) ∧ w = w' := by
  obtain ⟨b, c, ns, h1, _⟩ := h.reads
  have hf := h.fine
  have q0 : w.cell? ⟨g, 3, none⟩ = some (.int .i64 ((lastOf S.order : Nat) : Int)) := (blk_cell h1 3).trans rfl
  have H := Aside0.mk h
  obtain ⟨m, hm⟩ : ∃ m, lastOf S.order = m := ⟨_, rfl⟩
  rw [hm] at q0 ⊢
  have hb : m ≤ 1048576 := by rw [← hm]; exact (show lastOf S.order ≤ 1048576 by by_cases ho : S.order = [] ; rw [ho]; exact Nat.zero_le _; exact Nat.le_trans (hf.1.mem _ (lastOf_mem ho)).2 hf.2.1)
  clear h1 h hf hm
  go_enter Try.func70, Try.ntmps70
  go_wp2_with fail
  (with_reducible refine (sk_none g base most S _ H.out).mono ?_)
  rintro e w1 ⟨rfl, rfl⟩
  go_wp2
  go_ret
  exact ⟨by first | rfl | (congr 2; omega) | simp, rfl⟩
/-- what trail tells: for each level the last one below -/
def trL (S : SL ByteArray) (k : IK) : List Nat := (List.range 12).map fun j => tr S.ht j (S.below k)
/-- .. the levels from one on are told -/
def trP (S : SL ByteArray) (k : IK) (m : Nat) : List Nat := (List.range 12).map fun j => if m ≤ j then tr S.ht j (S.below k) else 0
theorem trP_len (S : SL ByteArray) (k : IK) (m : Nat) : (trP S k m).length = 12 := by simp [trP]
theorem trL_len (S : SL ByteArray) (k : IK) : (trL S k).length = 12 := by simp [trL]
theorem trP_zero (S : SL ByteArray) (k : IK) : trP S k 0 = trL S k := by simp [trP, trL]
theorem trL_get (S : SL ByteArray) (k : IK) (j : Nat) (h : j < 12) : (trL S k).getD j 0 = tr S.ht j (S.below k) := by
  unfold trL
  rw [List.getD_eq_getElem?_getD, List.getElem?_map, List.getElem?_range h]; rfl
theorem tr_high {S : SL ByteArray} (hS : S.Fine) (k : IK) {j : Nat} (h : S.height ≤ j) : tr S.ht j (S.below k) = 0 := by
  have := tr_append_none (ht := S.ht) (j := j) [] (c := S.below k) fun z hz => by
    have := S.ht_le hS (SL.mem_below hz).1
    omega
  rw [List.nil_append] at this
  rw [this]; rfl
theorem trP_top {S : SL ByteArray} (hS : S.Fine) (k : IK) : trP S k S.height = List.replicate 12 0 := by
  apply List.ext_getElem?
  intro i
  unfold trP
  rw [List.getElem?_map, List.getElem?_replicate]
  by_cases hi : i < 12
  · rw [List.getElem?_range hi, if_pos hi]
    simp only [Option.map_some]
    split
    · rename_i h; rw [tr_high hS k h]
    · rfl
  · rw [if_neg hi, List.getElem?_eq_none (by simp; omega)]; rfl
theorem trP_set (S : SL ByteArray) (k : IK) (m : Nat) (h : m < 12) : (trP S k (m + 1)).set m (tr S.ht m (S.below k)) = trP S k m := by
  apply List.ext_getElem?
  intro i
  unfold trP
  by_cases hi : i < 12
  · by_cases e : i = m
    · subst e
      rw [List.getElem?_set_self (by simp; omega), List.getElem?_map, List.getElem?_range hi]
      simp
    · rw [List.getElem?_set_ne (Ne.symm e), List.getElem?_map, List.getElem?_map, List.getElem?_range hi]
      simp only [Option.map_some, Option.some.injEq]
      by_cases h2 : m ≤ i
      · rw [if_pos (by omega), if_pos h2]
      · rw [if_neg (by omega), if_neg h2]
  · rw [List.getElem?_eq_none (by simp; omega), List.getElem?_eq_none (by simp; omega)]
set_option maxHeartbeats 8000000 in
set_option maxRecDepth 100000 in
theorem sk_trail (g base most : Nat) (S : SL ByteArray) (k : IK) (w : World) (h : SkAt w g base S most) :
    Calls Try.prog 75 #[.pointer (some ⟨g, 0, none⟩), .agg #[.string k.1, .int .u64 k.2.1, .int .i64 k.2.2]] w fun e w' => e = .returned (.agg (ac12 (trL S k))) ∧ Below w.heap.size w w' := by
  have HS := Aside0.mk h.fine
  obtain ⟨W1, hW1⟩ : ∃ W1, w.alloc (.cells #[.string k.1, .int .u64 k.2.1, .int .i64 k.2.2] 37) = W1 := ⟨_, rfl⟩
  have hs1 : W1.heap.size = w.heap.size + 1 := by rw [← hW1, World.size_alloc]
  have HBW1 := Aside0.mk (show Below w.heap.size w W1 by rw [← hW1]; exact below_alloc (Below.refl _ _) _)
  have HXW := Aside0.mk (show W1.heap[w.heap.size]? = some (.cells #[.string k.1, .int .u64 k.2.1, .int .i64 k.2.2] 37 (0, 0)) by rw [← hW1]; exact blk_new w _)
  obtain ⟨W0, hW0⟩ : ∃ W0, W1.alloc (.cells #[.int .i64 0, .int .i64 0, .int .i64 0, .int .i64 0, .int .i64 0, .int .i64 0, .int .i64 0, .int .i64 0, .int .i64 0, .int .i64 0, .int .i64 0, .int .i64 0] 85) = W0 := ⟨_, rfl⟩
  have HA := Aside0.mk (show ArrAt W0 (w.heap.size + 1) 85 (List.replicate 12 0) by rw [← hW0, ← hs1]; exact ArrAt.fresh W1 85 (List.replicate 12 0))
  have HB0 := Aside0.mk (show Below w.heap.size w W0 by rw [← hW0]; exact below_alloc HBW1.out _)
  have HX := Aside0.mk (show W0.heap[w.heap.size]? = some (.cells #[.string k.1, .int .u64 k.2.1, .int .i64 k.2.2] 37 (0, 0)) by rw [← hW0]; exact blk_alloc HXW.out _)
  have HSK := Aside0.mk (fun W (hb : Below w.heap.size w W) => h.below hb)
  have HKX := Aside0.mk (fun W (hb : Below W0.heap.size W0 W) => (hb.block w.heap.size (blk_lt HX.out)).trans HX.out)
  obtain ⟨b, c, ns, h1, _⟩ := h.reads
  have q2 : w.cell? ⟨g, 2, none⟩ = some (.int .i64 (S.height : Int)) := (blk_cell h1 2).trans rfl
  have hgw := h.lt
  have HT := Aside0.mk (trP_top h.fine.1 k)
  have hhb := S.height_le h.fine.1
  obtain ⟨m, hm⟩ : ∃ m, S.height = m := ⟨_, rfl⟩
  rw [hm] at q2 HT hhb
  have HM := Aside0.mk hm
  have HE1 := Aside0.mk hW1
  have HE0 := Aside0.mk hW0
  clear h h1 hm hs1 HBW1 HXW hW1 hW0
  go_enter Try.func75, Try.ntmps75
  go_wp2
  go_step3
  go_wp2
  go_step3
  go_wp2
  rw [HE1.out, HE0.out]
  clear HE1 HE0 q2
  go_loopg [5, 6] (13 + S.order.length) (fun kq v5 v6 wr => ∃ (a d : List Nat) (lv : Nat), v5 = .int .i64 ((lastOf a : Nat) : Int) ∧ v6 = .int .i64 ((lv : Int) - 1) ∧ lv ≤ m ∧ lv + d.length < kq ∧ Aside0 (S.below k = a ++ d) ∧ Aside0 (a = [] ∨ lv ≤ S.ht (lastOf a)) ∧ Aside0 (ArrAt wr (w.heap.size + 1) 85 (trP S k lv)) ∧ Aside0 (Below w.heap.size w wr) ∧ Aside0 (wr.heap[w.heap.size]? = some (.cells #[.string k.1, .int .u64 k.2.1, .int .i64 k.2.2] 37 (0, 0))))
  case atStart => exact ⟨[], S.below k, m, rfl, rfl, Nat.le_refl _, by have : (S.below k).length ≤ S.order.length := List.length_filter_le _ _; omega, ⟨rfl⟩, ⟨Or.inl rfl⟩, ⟨by rw [HT.out]; exact HA.out⟩, HB0, HX⟩
  case round =>
    obtain ⟨a, d, lv, rfl, rfl, hlm, hkq, HP, HL, HA, HB, HX⟩ := hrel
    cases gk with
    | zero => omega
    | succ gk1 =>
    cases lv with
    | zero =>
      have hlen := trP_len S k 0
      go_wp2_with (first | (refine wpList_load_arr rfl _ _ rfl _ rfl HA.out Try.underlying85 hi12 hlen ?_) | (refine wpList_store_arr rfl rfl _ _ _ rfl _ rfl HA.out _ rfl hi12 hlen hlen ?_))
      rw [Exit.noGoto_ret]
      exact ret_arr rfl rfl (HA.out.setc _ rfl) Try.underlying85 hi12 hlen rfl ⟨by rw [trP_zero], belowSetCells _ (Nat.le_succ _) _ _ _ HB.out⟩
    | succ j =>
      have e1 : ((j + 1 : Nat) : Int) - 1 = (j : Int) := by omega
      rw [e1]
      have HSW := Aside0.mk (HSK.out wr HB.out)
      obtain ⟨b, c, ns, h1, h2, _, h4, hM⟩ := HSW.out.reads
      have hfine := HS.out.1
      have hsz := HS.out.2.1
      have hla : lastOf a < S.nodes.length + 1 := by
        by_cases ha : a = []
        · subst ha; exact Nat.succ_pos _
        · have := hfine.mem (lastOf a) (SL.mem_below (k := k) (by rw [HP.out]; exact List.mem_append_left _ (lastOf_mem ha))).1
          omega
      have q0 : wr.cell? ⟨g, 0, none⟩ = some (.slice (some ⟨b, 0, none⟩) (S.nodes.length + 1) c) := (blk_cell h1 0).trans rfl
      have q1 := h2 (lastOf a) j hla (by omega)
      have hlk := hM.links
      rw [S.part hfine k, HP.out] at hlk
      have hst := hlk.step (j := j) (by omega) (by rcases HL.out with h | h; exact Or.inl h; exact Or.inr (by omega))
      have hzl := hM.nxt_lt j (lastOf a)
      rw [hM.len] at hzl
      obtain ⟨z, hz⟩ : ∃ z, nxtOf ns j (lastOf a) = z := ⟨_, rfl⟩
      rw [hz] at q1 hst hzl
      have hzb : z ≤ 1048576 := by omega
      have HW := Aside0.mk (show wrap64 (z : Int) = (z : Int) by unfold wrap64; omega)
      have HKC := Aside0.mk (fun (h : 1 ≤ z) => h4 z h hzl)
      have HCMP := Aside0.mk (fun W => ikey_Compare.calls (0 + 4) (S.key z).1 (S.key z).2.1 (S.key z).2.2 k.1 k.2.1 k.2.2 _ W (compare_eq 0 _ _ _ _ _ _))
      have HST := Aside0.mk hst
      have HKL := Aside0.mk (show decide (kc (S.key z).1.toList (S.key z).2.1 (S.key z).2.2 k.1.toList k.2.1 k.2.2 < 0) = kl (S.key z) k from rfl)
      obtain ⟨r, hr⟩ : ∃ r, kc (S.key z).1.toList (S.key z).2.1 (S.key z).2.2 k.1.toList k.2.1 k.2.2 = r := ⟨_, rfl⟩
      rw [hr] at HCMP HKL
      obtain ⟨⟨ks, kn, kd⟩, hkk⟩ : ∃ kk, S.key z = kk := ⟨_, rfl⟩
      have HKK := Aside0.mk hkk
      rw [hkk] at HKC HCMP
      obtain ⟨n, hn⟩ : ∃ n, S.nodes.length + 1 = n := ⟨_, rfl⟩
      rw [hn] at q0 hzl hla
      obtain ⟨at_, hat⟩ : ∃ at_, lastOf a = at_ := ⟨_, rfl⟩
      rw [hat, ← Nat.add_assoc] at q1
      rw [hat] at hla ⊢
      have HAT := Aside0.mk hat
      have hj12 : j < 12 := by omega
      have hn1 : n ≤ 1048577 := by omega
      have q0x := blk_cell HX.out 0
      have q1x := blk_cell HX.out 1
      have q2x := blk_cell HX.out 2
      clear h1 h2 h4 hM hlk hst hz hkk hr e1 hn hat hsz
      by_cases hz0 : z = 0
      · have b0 : ((z : Int) == 0) = true := by simp [hz0]
        have b0' : ((z : Int) != 0) = false := by simp [hz0]
        have HEND := Aside0.mk (HST.out.resolve_left (by
          rintro ⟨c1, c2, e, _⟩
          have := HS.out.1.mem z (SL.mem_below (k := k) (by rw [HP.out, e]; simp)).1
          omega))
        clear hz0
        go_wp2_with fail
        refine start_ (n := 15) (S := fun w' => True) (ds := []) #[false, false, false, false, false, false, false, false, false, false, false, false, false, false, false] (by kernel_rfl) rfl rfl trivial (fun hHeld => ?_)
        refine pure_ (i := 0) (N := some 26) (v := ?_) (a' := ?_) #[true, false, false, false, false, false, false, false, false, false, false, false, false, false, false] rfl rfl (by kernel_rfl) (fun _ _ _ h => h) (Or.inl ⟨by rfl, ?_⟩) ?_ ?_
        rotate_left
        · intro w'
          go_simp
          with_reducible rfl
        rotate_left
        · simp only [Act.put, List.setIfInBounds_toArray, List.set_cons_zero, List.set_cons_succ, i64_w, i32_w]
          rfl
        refine pure_ (i := 1) (N := some 27) (v := ?_) (a' := ?_) #[true, true, false, false, false, false, false, false, false, false, false, false, false, false, false] rfl rfl (by kernel_rfl) (fun _ _ _ h => h) (Or.inl ⟨by rfl, ?_⟩) ?_ ?_
        rotate_left
        · intro w'
          go_simp
          with_reducible rfl
        rotate_left
        · simp only [Act.put, List.setIfInBounds_toArray, List.set_cons_zero, List.set_cons_succ, i64_w, i32_w]
          rfl
        refine pure_ (i := 2) (N := some 28) (v := ?_) (a' := ?_) #[true, true, true, false, false, false, false, false, false, false, false, false, false, false, false] rfl rfl (by kernel_rfl) (fun _ _ _ h => h) (Or.inl ⟨by rfl, ?_⟩) ?_ ?_
        rotate_left
        · intro w'
          go_simp
          with_reducible rfl
        rotate_left
        · simp only [Act.put, List.setIfInBounds_toArray, List.set_cons_zero, List.set_cons_succ, i64_w, i32_w]
          rfl
        refine pure_ (i := 3) (N := some 29) (v := undef) (a' := ?_) #[true, true, true, true, false, false, false, false, false, false, false, false, false, false, false] rfl rfl (by kernel_rfl) (fun _ _ _ h => h) (Or.inr ⟨by rfl, rfl⟩) ?_ ?_
        rotate_left
        · simp only [Act.put, List.setIfInBounds_toArray, List.set_cons_zero, List.set_cons_succ, i64_w, i32_w]
          rfl
        refine pure_ (i := 4) (N := some 30) (v := undef) (a' := ?_) #[true, true, true, true, true, false, false, false, false, false, false, false, false, false, false] rfl rfl (by kernel_rfl) (fun _ _ _ h => h) (Or.inr ⟨by rfl, rfl⟩) ?_ ?_
        rotate_left
        · simp only [Act.put, List.setIfInBounds_toArray, List.set_cons_zero, List.set_cons_succ, i64_w, i32_w]
          rfl
        refine pure_ (i := 5) (N := some 31) (v := undef) (a' := ?_) #[true, true, true, true, true, true, false, false, false, false, false, false, false, false, false] rfl rfl (by kernel_rfl) (fun _ _ _ h => h) (Or.inr ⟨by rfl, rfl⟩) ?_ ?_
        rotate_left
        · simp only [Act.put, List.setIfInBounds_toArray, List.set_cons_zero, List.set_cons_succ, i64_w, i32_w]
          rfl
        refine pure_ (i := 6) (N := some 32) (v := undef) (a' := ?_) #[true, true, true, true, true, true, true, false, false, false, false, false, false, false, false] rfl rfl (by kernel_rfl) (fun _ _ _ h => h) (Or.inr ⟨by rfl, rfl⟩) ?_ ?_
        rotate_left
        · simp only [Act.put, List.setIfInBounds_toArray, List.set_cons_zero, List.set_cons_succ, i64_w, i32_w]
          rfl
        refine pure_ (i := 7) (N := some 33) (v := undef) (a' := ?_) #[true, true, true, true, true, true, true, true, false, false, false, false, false, false, false] rfl rfl (by kernel_rfl) (fun _ _ _ h => h) (Or.inr ⟨by rfl, rfl⟩) ?_ ?_
        rotate_left
        · simp only [Act.put, List.setIfInBounds_toArray, List.set_cons_zero, List.set_cons_succ, i64_w, i32_w]
          rfl
        refine pure_ (i := 8) (N := some 34) (v := undef) (a' := ?_) #[true, true, true, true, true, true, true, true, true, false, false, false, false, false, false] rfl rfl (by kernel_rfl) (fun _ _ _ h => h) (Or.inr ⟨by rfl, rfl⟩) ?_ ?_
        rotate_left
        · simp only [Act.put, List.setIfInBounds_toArray, List.set_cons_zero, List.set_cons_succ, i64_w, i32_w]
          rfl
        refine pure_ (i := 9) (N := some 35) (v := undef) (a' := ?_) #[true, true, true, true, true, true, true, true, true, true, false, false, false, false, false] rfl rfl (by kernel_rfl) (fun _ _ _ h => h) (Or.inr ⟨by rfl, rfl⟩) ?_ ?_
        rotate_left
        · simp only [Act.put, List.setIfInBounds_toArray, List.set_cons_zero, List.set_cons_succ, i64_w, i32_w]
          rfl
        refine pure_ (i := 10) (N := some 36) (v := undef) (a' := ?_) #[true, true, true, true, true, true, true, true, true, true, true, false, false, false, false] rfl rfl (by kernel_rfl) (fun _ _ _ h => h) (Or.inr ⟨by rfl, rfl⟩) ?_ ?_
        rotate_left
        · simp only [Act.put, List.setIfInBounds_toArray, List.set_cons_zero, List.set_cons_succ, i64_w, i32_w]
          rfl
        refine pure_ (i := 11) (N := some 37) (v := undef) (a' := ?_) #[true, true, true, true, true, true, true, true, true, true, true, true, false, false, false] rfl rfl (by kernel_rfl) (fun _ _ _ h => h) (Or.inr ⟨by rfl, rfl⟩) ?_ ?_
        rotate_left
        · simp only [Act.put, List.setIfInBounds_toArray, List.set_cons_zero, List.set_cons_succ, i64_w, i32_w]
          rfl
        refine pure_ (i := 12) (N := some 38) (v := undef) (a' := ?_) #[true, true, true, true, true, true, true, true, true, true, true, true, true, false, false] rfl rfl (by kernel_rfl) (fun _ _ _ h => h) (Or.inr ⟨by rfl, rfl⟩) ?_ ?_
        rotate_left
        · simp only [Act.put, List.setIfInBounds_toArray, List.set_cons_zero, List.set_cons_succ, i64_w, i32_w]
          rfl
        refine pure_ (i := 13) (N := some 39) (v := undef) (a' := ?_) #[true, true, true, true, true, true, true, true, true, true, true, true, true, true, false] rfl rfl (by kernel_rfl) (fun _ _ _ h => h) (Or.inr ⟨by rfl, rfl⟩) ?_ ?_
        rotate_left
        · simp only [Act.put, List.setIfInBounds_toArray, List.set_cons_zero, List.set_cons_succ, i64_w, i32_w]
          rfl
        refine pure_ (i := 14) (N := some 40) (v := ?_) (a' := ?_) #[true, true, true, true, true, true, true, true, true, true, true, true, true, true, true] rfl rfl (by kernel_rfl) (fun _ _ _ h => h) (Or.inl ⟨by rfl, ?_⟩) ?_ ?_
        rotate_left
        · intro w'
          go_simp
          with_reducible rfl
        rotate_left
        · simp only [Act.put, List.setIfInBounds_toArray, List.set_cons_zero, List.set_cons_succ, i64_w, i32_w]
          rfl
        refine done_ (by kernel_rfl) ?_
        have HD := Aside0.mk (show Below wr.heap.size wr wr.drew from below_drew1 (Below.refl _ _))
        have HA3 := Aside0.mk (HA.out.below HD.out)
        have HB3 := Aside0.mk (below_step HB.out HD.out)
        have HX3 := Aside0.mk (blk_below HX.out HD.out)
        have ha1 := HA3.out.cell j (by rw [trP_len]; omega)
        have ha2 := HA3.out.frozen j
        have HTR := Aside0.mk (show at_ = tr S.ht j (S.below k) by rw [HP.out, ← HEND.out.2.1, HAT.out])
        clear q0x q1x q2x q0 q1
        go_wp2
        go_roundg gk1
        case measure => omega
        case rel => exact ⟨a, d, j, by rw [HAT.out], by rfl, by omega, by omega, HP, ⟨by rcases HL.out with h | h; exact Or.inl h; exact Or.inr (by omega)⟩, ⟨by have := HA3.out.set j at_; rw [HTR.out] at this ⊢; rwa [trP_set S k j hj12] at this⟩, ⟨below_set HB3.out (Nat.le_succ _)⟩, ⟨(Below.heap_setCell _ _ _ _ (by show w.heap.size ≠ w.heap.size + 1; omega)).trans HX3.out⟩⟩
      · have b0 : ((z : Int) == 0) = false := by simp; omega
        have b0' : ((z : Int) != 0) = true := by simp; omega
        have hz1 : 1 ≤ z := by omega
        obtain ⟨k0, k1, k2, _⟩ := HKC.out hz1
        clear hz0
        go_wp2_with fail
        refine start_ (n := 15) (S := fun w' => w'.cell? ⟨g, 0, none⟩ = some (.slice (some ⟨b, 0, none⟩) n c) ∧ w'.cell? ⟨b, z * 18, none⟩ = some (.string ks) ∧ w'.cell? ⟨b, z * 18 + 1, none⟩ = some (.int .u64 kn) ∧ w'.cell? ⟨b, z * 18 + 2, none⟩ = some (.int .i64 kd) ∧ w'.cell? ⟨w.heap.size, 0, none⟩ = some (.string k.1) ∧ w'.cell? ⟨w.heap.size, 1, none⟩ = some (.int .u64 k.2.1) ∧ w'.cell? ⟨w.heap.size, 2, none⟩ = some (.int .i64 k.2.2)) (ds := []) #[false, false, false, false, false, false, false, false, false, false, false, false, false, false, false] (by kernel_rfl) rfl rfl ⟨q0, k0, k1, k2, q0x, q1x, q2x⟩ (fun hHeld => ?_)
        refine pure_ (i := 0) (N := some 26) (v := ?_) (a' := ?_) #[true, false, false, false, false, false, false, false, false, false, false, false, false, false, false] rfl rfl (by kernel_rfl) (fun _ _ _ h => h) (Or.inl ⟨by rfl, ?_⟩) ?_ ?_
        rotate_left
        · intro w'
          go_simp
          with_reducible rfl
        rotate_left
        · simp only [Act.put, List.setIfInBounds_toArray, List.set_cons_zero, List.set_cons_succ, i64_w, i32_w]
          rfl
        refine pure_ (i := 1) (N := some 27) (v := ?_) (a' := ?_) #[true, true, false, false, false, false, false, false, false, false, false, false, false, false, false] rfl rfl (by kernel_rfl) (fun _ _ _ h => h) (Or.inl ⟨by rfl, ?_⟩) ?_ ?_
        rotate_left
        · intro w'
          go_simp
          with_reducible rfl
        rotate_left
        · simp only [Act.put, List.setIfInBounds_toArray, List.set_cons_zero, List.set_cons_succ, i64_w, i32_w]
          rfl
        refine pure_ (i := 2) (N := some 28) (v := ?_) (a' := ?_) #[true, true, true, false, false, false, false, false, false, false, false, false, false, false, false] rfl rfl (by kernel_rfl) (fun _ _ _ h => h) (Or.inl ⟨by rfl, ?_⟩) ?_ ?_
        rotate_left
        · intro w'
          go_simp
          with_reducible rfl
        rotate_left
        · simp only [Act.put, List.setIfInBounds_toArray, List.set_cons_zero, List.set_cons_succ, i64_w, i32_w]
          rfl
        refine pure_ (i := 3) (N := some 29) (v := ?_) (a' := ?_) #[true, true, true, true, false, false, false, false, false, false, false, false, false, false, false] rfl rfl (by kernel_rfl) (fun _ _ _ h => h) (Or.inl ⟨by rfl, ?_⟩) ?_ ?_
        rotate_left
        · intro w'
          go_simp
          with_reducible rfl
        rotate_left
        · simp only [Act.put, List.setIfInBounds_toArray, List.set_cons_zero, List.set_cons_succ, i64_w, i32_w]
          rfl
        refine pure_ (i := 4) (N := some 30) (v := ?_) (a' := ?_) #[true, true, true, true, true, false, false, false, false, false, false, false, false, false, false] rfl rfl (by kernel_rfl) (fun _ _ _ h => h) (Or.inl ⟨by rfl, ?_⟩) ?_ ?_
        rotate_left
        · intro w'
          go_simp
          with_reducible rfl
        rotate_left
        · simp only [Act.put, List.setIfInBounds_toArray, List.set_cons_zero, List.set_cons_succ, i64_w, i32_w]
          rfl
        refine pure_ (i := 5) (N := some 31) (v := ?_) (a' := ?_) #[true, true, true, true, true, true, false, false, false, false, false, false, false, false, false] rfl rfl (by kernel_rfl) (fun _ _ _ h => h) (Or.inl ⟨by rfl, ?_⟩) ?_ ?_
        rotate_left
        · intro w'
          go_simp
          with_reducible rfl
        rotate_left
        · simp only [Act.put, List.setIfInBounds_toArray, List.set_cons_zero, List.set_cons_succ, i64_w, i32_w]
          rfl
        refine pure_ (i := 7) (N := some 33) (v := ?_) (a' := ?_) #[true, true, true, true, true, true, false, true, false, false, false, false, false, false, false] rfl rfl (by kernel_rfl) (fun _ _ _ h => h) (Or.inl ⟨by rfl, ?_⟩) ?_ ?_
        rotate_left
        · intro w'
          go_simp
          with_reducible rfl
        rotate_left
        · simp only [Act.put, List.setIfInBounds_toArray, List.set_cons_zero, List.set_cons_succ, i64_w, i32_w]
          rfl
        refine take_ (i := 6) (N := some 32) (v := ?_) (a' := ?_) #[true, true, true, true, true, true, true, true, false, false, false, false, false, false, false] rfl rfl (by kernel_rfl) (fun _ _ _ h => h) (Or.inl ⟨by rfl, ?_⟩) hHeld ?_ ?_
        rotate_left
        · rintro w' ⟨s0, s1, s2, s3, s4, s5, s6⟩
          go_simp
          with_reducible rfl
        rotate_left
        · simp only [Act.put, List.setIfInBounds_toArray, List.set_cons_zero, List.set_cons_succ, i64_w, i32_w]
          rfl
        refine pure_ (i := 8) (N := some 34) (v := ?_) (a' := ?_) #[true, true, true, true, true, true, true, true, true, false, false, false, false, false, false] rfl rfl (by kernel_rfl) (fun _ _ _ h => h) (Or.inl ⟨by rfl, ?_⟩) ?_ ?_
        rotate_left
        · intro w'
          go_simp
          with_reducible rfl
        rotate_left
        · simp only [Act.put, List.setIfInBounds_toArray, List.set_cons_zero, List.set_cons_succ, i64_w, i32_w]
          rfl
        refine pure_ (i := 9) (N := some 35) (v := ?_) (a' := ?_) #[true, true, true, true, true, true, true, true, true, true, false, false, false, false, false] rfl rfl (by kernel_rfl) (fun _ _ _ h => h) (Or.inl ⟨by rfl, ?_⟩) ?_ ?_
        rotate_left
        · intro w'
          go_simp
          with_reducible rfl
        rotate_left
        · simp only [Act.put, List.setIfInBounds_toArray, List.set_cons_zero, List.set_cons_succ, i64_w, i32_w]
          rfl
        refine take_ (i := 10) (N := some 36) (v := ?_) (a' := ?_) #[true, true, true, true, true, true, true, true, true, true, true, false, false, false, false] rfl rfl (by kernel_rfl) (fun _ _ _ h => h) (Or.inl ⟨by rfl, ?_⟩) hHeld ?_ ?_
        rotate_left
        · rintro w' ⟨s0, s1, s2, s3, s4, s5, s6⟩
          go_simp
          with_reducible rfl
        rotate_left
        · simp only [Act.put, List.setIfInBounds_toArray, List.set_cons_zero, List.set_cons_succ, i64_w, i32_w]
          rfl
        refine take_ (i := 11) (N := some 37) (v := ?_) (a' := ?_) #[true, true, true, true, true, true, true, true, true, true, true, true, false, false, false] rfl rfl (by kernel_rfl) (fun _ _ _ h => h) (Or.inl ⟨by rfl, ?_⟩) hHeld ?_ ?_
        rotate_left
        · rintro w' ⟨s0, s1, s2, s3, s4, s5, s6⟩
          go_simp
          with_reducible rfl
        rotate_left
        · simp only [Act.put, List.setIfInBounds_toArray, List.set_cons_zero, List.set_cons_succ, i64_w, i32_w]
          rfl
        refine one_ (i := 12) (N := some 38) #[true, true, true, true, true, true, true, true, true, true, true, true, true, false, false] rfl rfl (by kernel_rfl) (by decide) (fun K hK => ?_)
        refine goes_ Try.func24 (by kernel_rfl) rfl #[.agg #[.string ks, .int .u64 kn, .int .i64 kd], .agg #[.string k.1, .int .u64 k.2.1, .int .i64 k.2.2]] (by rfl) rfl rfl (by simp only [List.map_toArray, List.map_cons, List.map_nil]; rfl) ?_
        with_reducible refine (HCMP.out _).mono ?_
        rintro e w3 ⟨rfl, hb⟩
        refine ⟨_, rfl, ?_⟩
        have HD := Aside0.mk (show Below wr.heap.size wr w3 from below_step (pw_below_drewN (Below.refl _ _) 1) hb)
        clear hb
        refine hK.out _ _ ⟨pw_cell_below HD.out q0, pw_cell_below HD.out k0, pw_cell_below HD.out k1, pw_cell_below HD.out k2, pw_cell_below HD.out q0x, pw_cell_below HD.out q1x, pw_cell_below HD.out q2x⟩ (fun hHeld => ?_)
        clear hK K
        refine norm_ (a' := ?_) ?_ ?_
        rotate_left
        · show Act.put _ (some 38) _ = _
          simp only [Act.put, List.setIfInBounds_toArray, List.set_cons_zero, List.set_cons_succ, i64_w, i32_w]
          rfl
        refine pure_ (i := 13) (N := some 39) (v := ?_) (a' := ?_) #[true, true, true, true, true, true, true, true, true, true, true, true, true, true, false] rfl rfl (by kernel_rfl) (fun _ _ _ h => h) (Or.inl ⟨by rfl, ?_⟩) ?_ ?_
        rotate_left
        · intro w'
          go_simp
          with_reducible rfl
        rotate_left
        · simp only [Act.put, List.setIfInBounds_toArray, List.set_cons_zero, List.set_cons_succ, i64_w, i32_w]
          rfl
        refine pure_ (i := 14) (N := some 40) (v := ?_) (a' := ?_) #[true, true, true, true, true, true, true, true, true, true, true, true, true, true, true] rfl rfl (by kernel_rfl) (fun _ _ _ h => h) (Or.inl ⟨by rfl, ?_⟩) ?_ ?_
        rotate_left
        · intro w'
          go_simp
          with_reducible rfl
        rotate_left
        · simp only [Act.put, List.setIfInBounds_toArray, List.set_cons_zero, List.set_cons_succ, i64_w, i32_w]
          rfl
        refine done_ (by kernel_rfl) ?_
        by_cases hrr : r < 0
        · have b2 : decide (r < 0) = true := decide_eq_true hrr
          have hkl : kl (ks, kn, kd) k = true := by rw [← HKK.out, ← HKL.out]; exact b2
          have HSTEP := Aside0.mk (HST.out.resolve_right (by
            rintro ⟨e, _⟩
            rcases nx_mem (ht := S.ht) (j := j) (S.rest k) with h0 | h0
            · omega
            · rw [← e] at h0
              have := (SL.mem_rest h0).2
              rw [HKK.out, hkl] at this
              cases this))
          have HX3 := Aside0.mk (blk_below HX.out HD.out)
          clear hkl q0x q1x q2x q0 q1 k0 k1 k2
          go_wp2
          go_roundg gk1
          obtain ⟨c1, c2, e, hjz, _⟩ := HSTEP.out
          have he : a ++ c1 ++ z :: c2 = (a ++ c1 ++ [z]) ++ c2 := by simp
          have hdl : d.length = c1.length + (c2.length + 1) := by rw [e]; simp
          case measure => omega
          case rel => exact ⟨a ++ c1 ++ [z], c2, j + 1, by rw [lastOf_snoc], by rw [show ((j + 1 : Nat) : Int) - 1 = (j : Int) by omega], hlm, by omega, ⟨by rw [HP.out, e, ← he]; simp⟩, ⟨Or.inr (by rw [lastOf_snoc]; exact hjz)⟩, ⟨HA.out.below HD.out⟩, ⟨below_step HB.out HD.out⟩, HX3⟩
        · have b2 : decide (r < 0) = false := decide_eq_false hrr
          have hkl : kl (ks, kn, kd) k = false := by rw [← HKK.out, ← HKL.out]; exact b2
          have HEND := Aside0.mk (HST.out.resolve_left (by
            rintro ⟨c1, c2, e, _⟩
            have := (SL.mem_below (S := S) (k := k) (z := z) (by rw [HP.out, e]; simp)).2
            rw [HKK.out, hkl] at this
            cases this))
          have b3 : 0 ≤ r := by omega
          clear hkl k0 k1 k2
          have HA3 := Aside0.mk (HA.out.below HD.out)
          have HB3 := Aside0.mk (below_step HB.out HD.out)
          have HX3 := Aside0.mk (blk_below HX.out HD.out)
          have ha1 := HA3.out.cell j (by rw [trP_len]; omega)
          have ha2 := HA3.out.frozen j
          have HTR := Aside0.mk (show at_ = tr S.ht j (S.below k) by rw [HP.out, ← HEND.out.2.1, HAT.out])
          clear q0x q1x q2x q0 q1
          go_wp2
          go_roundg gk1
          case measure => omega
          case rel => exact ⟨a, d, j, by rw [HAT.out], by rfl, by omega, by omega, HP, ⟨by rcases HL.out with h | h; exact Or.inl h; exact Or.inr (by omega)⟩, ⟨by have := HA3.out.set j at_; rw [HTR.out] at this ⊢; rwa [trP_set S k j hj12] at this⟩, ⟨below_set HB3.out (Nat.le_succ _)⟩, ⟨(Below.heap_setCell _ _ _ _ (by show w.heap.size ≠ w.heap.size + 1; omega)).trans HX3.out⟩⟩
end St

end Go.Proofs.Ytehfcafmdnfamaa.G

/- Contracts typed by hand: blocks of cells as lists -/
namespace Go.Proofs.Ytehfcafmdnfamaa.G
open Go.RowKit Go.Proofs.YtehfcafmdnfamaaW.PrintWords Go.Proofs.YtehfcafmdnfamaaW.PrintLast Go.Proofs.YtehfcafmdnfamaaW.PrintMore
attribute [local go_sem] max2_int min2_int max_two min_two max_three min_three max_four min_four
set_option linter.unusedVariables false
set_option linter.unusedSimpArgs false

/-! blocks of cells as lists -/
structure BlkAt (w : World) (b : Nat) (T : TypeId) (vs : List Value) : Prop where
  heap : w.heap[b]? = some (.cells vs.toArray T (0, 0))
theorem BlkAt.lt {w : World} {b : Nat} {T : TypeId} {vs : List Value} (h : BlkAt w b T vs) : b < w.heap.size := (Array.getElem?_eq_some_iff.1 h.heap).1
theorem BlkAt.cell {w : World} {b : Nat} {T : TypeId} {vs : List Value} (h : BlkAt w b T vs) {i : Nat} {v : Value} (hi : vs[i]? = some v) : w.cell? ⟨b, i, none⟩ = some v := by
  rw [cell_of_row w b i _ T _ h.heap, List.getElem?_toArray]
  exact hi
theorem BlkAt.range {w : World} {b : Nat} {T : TypeId} {vs : List Value} (h : BlkAt w b T vs) : w.rangeAt b 0 vs := fun j v hv => by
  rw [Nat.zero_add]
  exact h.cell hv
theorem BlkAt.frozen {w : World} {b : Nat} {T : TypeId} {vs : List Value} (h : BlkAt w b T vs) (i : Nat) : w.frozen? ⟨b, i, none⟩ = false := blk_frozen h.heap _
theorem BlkAt.there {w : World} {b : Nat} {T : TypeId} {vs : List Value} (h : BlkAt w b T vs) {n : Nat} (hn : vs.length = n) : w.there b 0 n := fun j hj => by
  rw [Nat.zero_add]
  exact ⟨by rw [h.cell (List.getElem?_eq_getElem (by omega : j < vs.length))]; rfl, h.frozen j⟩
theorem BlkAt.below {w w1 : World} {b : Nat} {T : TypeId} {vs : List Value} (h : BlkAt w b T vs) (hb : Below w.heap.size w w1) : BlkAt w1 b T vs := ⟨(hb.block b h.lt).trans h.heap⟩
theorem BlkAt.set {w : World} {b : Nat} {T : TypeId} {vs : List Value} (h : BlkAt w b T vs) (i : Nat) (v : Value) : BlkAt (w.setCell ⟨b, i, none⟩ v) b T (vs.set i v) := ⟨by
  rw [Lib.heap_setCell_same h.heap]
  show some (Obj.cells (vs.toArray.setIfInBounds i v) T (0, 0)) = _
  rw [List.setIfInBounds_toArray]⟩
theorem BlkAt.setc {w : World} {b : Nat} {T : TypeId} {vs : List Value} (h : BlkAt w b T vs) (s : List Value) (hs : s.length = vs.length) : BlkAt (w.setCells b 0 s) b T s := ⟨by
  obtain ⟨cur', h1, h2, h3⟩ := setCells_row s 0 w _ h.heap (by rw [List.size_toArray]; omega)
  rw [h1]
  have : cur' = s.toArray := by
    apply Array.toList_inj.1
    rw [h3, List.take_zero, List.nil_append, List.drop_eq_nil_of_le (by rw [Array.length_toList, List.size_toArray]; omega), List.append_nil]
  rw [this]⟩
theorem BlkAt.other {w : World} {b b' : Nat} {T : TypeId} {vs : List Value} (h : BlkAt w b T vs) (hne : b ≠ b') (i : Nat) (v : Value) : BlkAt (w.setCell ⟨b', i, none⟩ v) b T vs := ⟨(Below.heap_setCell _ _ _ _ hne).trans h.heap⟩
theorem BlkAt.fresh (w : World) (T : TypeId) (vs : List Value) : BlkAt (w.alloc (.cells vs.toArray T)) w.heap.size T vs := ⟨by show (w.heap.push _)[w.heap.size]? = _; simp⟩
theorem BlkAt.drew {w : World} {b : Nat} {T : TypeId} {vs : List Value} (h : BlkAt w b T vs) : BlkAt w.drew b T vs := ⟨h.heap⟩
theorem exec_load_blk {P : Program} {op : Oper} {a : Act} {w : World} (ty : TypeId) (x : Operand) (ho : op.op = .load ty x) (b : Nat) (hx : a.eval x = .pointer (some ⟨b, 0, none⟩)) {T : TypeId} {vs : List Value} (h : BlkAt w b T vs)
    (d : TypeDesc) (hu : P.underlying ty = some d) (hd : d.isRow = true) (hi : (P.info? ty).map (·.size) = some vs.length) : (execOp a.eval op).run P w = .ok (.value (.agg vs.toArray)) w := by
  unfold execOp
  simp only [ho, hx, Instr.loadAt, Instr.sureAddr, Sem.run_bind, Sem.run_pure, Result.andThen_ok, run_loadVar_mid w b 0 ty vs d h.range hu hd hi]

end Go.Proofs.Ytehfcafmdnfamaa.G

/- Contracts typed by hand: a skiplist's nodes in memory are written (values: texts) -/
namespace Go.Proofs.Ytehfcafmdnfamaa.G
open Go.RowKit Go.Proofs.YtehfcafmdnfamaaW.PrintWords Go.Proofs.YtehfcafmdnfamaaW.PrintLast Go.Proofs.YtehfcafmdnfamaaW.PrintMore
attribute [local go_sem] max2_int min2_int max_two min_two max_three min_three max_four min_four
set_option linter.unusedVariables false
set_option linter.unusedSimpArgs false

/-! a skiplist's nodes in memory are written (values: texts) -/
namespace St
theorem ndR_move {w w1 : World} {base e : Nat} {ok : Nat → Prop} {v : Value} {ns : List (ND ByteArray)} (h : Kd.R ndK e w base ok v ns) (hm : ∀ k, v.ownBlock = some k → w1.heap[k]? = w.heap[k]?) : Kd.R ndK e w1 base ok v ns := by
  obtain ⟨h0, inner, ho, hr⟩ := h
  exact ⟨h0, inner, own_move ho hm, hr.imp_ (fun _ _ hp => hp)⟩
theorem encN_set_next (x : ND ByteArray) (h12 : x.next.length = 12) (j u : Nat) (hj : j < 12) : (encN x).set (5 + j) (.int .i32 (u : Int)) = encN { x with next := x.next.set j u } := by
  unfold encN
  rw [List.set_append_left _ _ (by simp; omega), List.set_append_right _ _ (by simp)]
  simp only [List.length_cons, List.length_nil]
  rw [show 5 + j - (0 + 1 + 1 + 1 + 1 + 1) = j by omega, List.map_set]
theorem encN_set_prev (x : ND ByteArray) (h12 : x.next.length = 12) (u : Nat) : (encN x).set 17 (.int .i32 (u : Int)) = encN { x with prev := u } := by
  unfold encN
  rw [List.set_append_right _ _ (by simp [h12])]
  simp [h12]
/-- one cell of a node is written -/
theorem ndR_put {w w0 : World} {base b n c : Nat} {ns : List (ND ByteArray)} (h : Kd.R ndK 101 w base (fun _ => True) (.slice (some ⟨b, 0, none⟩) n c) ns) {z p : Nat} (hz : z < n) {x x' : ND ByteArray} (hx : ns[z]? = some x) (hp : p < 18) {v : Value} (h12 : x'.next.length = 12) (he : (encN x).set p v = encN x') :
    Kd.R ndK 101 (w.setCell ⟨b, z * 18 + p, none⟩ v) base (fun _ => True) (.slice (some ⟨b, 0, none⟩) n c) (ns.set z x') := by
  obtain ⟨y, h1, h2, h3, _⟩ := node_cells h z hz
  have hxy : y = x := Option.some.inj (h1.symm.trans hx)
  subst hxy
  have hl := encN_len h2
  have hset : (encN y).take p ++ [v] ++ (encN y).drop (p + 1) = encN x' := by
    rw [← he, List.set_eq_take_append_cons_drop, if_pos (by omega)]
    simp
  have := (Kd.R_seg (d := ndK) h (z : Int) (by omega) (by omega) (c := encN y) (seg := [v]) (j := p) hl (fun j u hu => by rw [Int.toNat_natCast]; exact h3 j u hu) (by show p + 1 ≤ 18; omega) (x' := x') (okp := fun k => k ≠ b) ⟨h12, hset⟩ (fun k hk => ⟨trivial, hk⟩)).1
  rw [Int.toNat_natCast] at this
  exact this
theorem ndR_next {w : World} {base b n c : Nat} {ns : List (ND ByteArray)} (h : Kd.R ndK 101 w base (fun _ => True) (.slice (some ⟨b, 0, none⟩) n c) ns) {z j u : Nat} (hz : z < n) (hj : j < 12) :
    Kd.R ndK 101 (w.setCell ⟨b, z * 18 + (5 + j), none⟩ (.int .i32 (u : Int))) base (fun _ => True) (.slice (some ⟨b, 0, none⟩) n c) (updN ns z j u) := by
  obtain ⟨x, h1, h2, _⟩ := node_cells h z hz
  unfold updN
  rw [h1]
  exact ndR_put (w0 := w) h hz h1 (by omega) (by simpa using h2) (encN_set_next x h2 j u hj)
theorem ndR_prev {w : World} {base b n c : Nat} {ns : List (ND ByteArray)} (h : Kd.R ndK 101 w base (fun _ => True) (.slice (some ⟨b, 0, none⟩) n c) ns) {z u : Nat} (hz : z < n) :
    Kd.R ndK 101 (w.setCell ⟨b, z * 18 + 17, none⟩ (.int .i32 (u : Int))) base (fun _ => True) (.slice (some ⟨b, 0, none⟩) n c) (updP ns z u) := by
  obtain ⟨x, h1, h2, _⟩ := node_cells h z hz
  unfold updP
  rw [h1]
  exact ndR_put (w0 := w) h hz h1 (by omega) h2 (encN_set_prev x h2 u)
end St

end Go.Proofs.Ytehfcafmdnfamaa.G

/- Contracts typed by hand: a skiplist in memory: Before, Seek, Get, Links, Trail, Node (values: texts) -/
namespace Go.Proofs.Ytehfcafmdnfamaa.G
open Go.RowKit Go.Proofs.YtehfcafmdnfamaaW.PrintWords Go.Proofs.YtehfcafmdnfamaaW.PrintLast Go.Proofs.YtehfcafmdnfamaaW.PrintMore
attribute [local go_sem] max2_int min2_int max_two min_two max_three min_three max_four min_four
set_option linter.unusedVariables false
set_option linter.unusedSimpArgs false

/-! a skiplist in memory: Before, Seek, Get, Links, Trail, Node (values: texts) -/
namespace St
theorem before_lt {S : SL ByteArray} (hS : S.Fine) (k : IK) : S.before k ≤ S.nodes.length := by
  unfold SL.before
  by_cases h : S.below k = []
  · rw [h]; exact Nat.zero_le _
  · exact (hS.mem _ (SL.mem_below (lastOf_mem h)).1).2
theorem seek_lt {S : SL ByteArray} (hS : S.Fine) (k : IK) : S.seek k ≤ S.nodes.length := by
  unfold SL.seek
  cases h : S.rest k with
  | nil => exact Nat.zero_le _
  | cons z l => exact (hS.mem z (SL.mem_rest (k := k) (by rw [h]; exact List.mem_cons_self ..)).1).2
theorem tr_before {S : SL ByteArray} (hS : S.Fine) (k : IK) : tr S.ht 0 (S.below k) = S.before k := tr_zero fun z hz => (S.ht_pos hS (SL.mem_below hz).1).1
theorem next_before {S : SL ByteArray} (hS : S.Fine) {ns : List (ND ByteArray)} (hM : Mem S ns) (k : IK) : nxtOf ns 0 (S.before k) = S.seek k := by
  have h := hM.links
  rw [S.part hS k] at h
  have := h.over (j := 0) (by omega)
  rw [tr_before hS k, nx_zero fun z hz => (S.ht_pos hS (SL.mem_rest hz).1).1] at this
  exact this
theorem idx12 (x0 x1 x2 x3 x4 x5 x6 x7 x8 x9 x10 x11 : Value) (w : World) : (Instr.index 85 (.agg #[x0, x1, x2, x3, x4, x5, x6, x7, x8, x9, x10, x11]) (.int .i64 0)).run Try.prog w = .ok x0 w := by kernel_rfl
set_option maxHeartbeats 4000000 in
set_option maxRecDepth 100000 in
theorem sk_before (g base most : Nat) (S : SL ByteArray) (k : IK) (w : World) (h : SkAt w g base S most) :
    Calls Try.prog 56 #[.pointer (some ⟨g, 0, none⟩), .agg #[.string k.1, .int .u64 k.2.1, .int .i64 k.2.2]] w fun e w' => e = .returned (.int .i64 ((S.before k : Nat) : Int)) ∧ Below w.heap.size w w' := by
  obtain ⟨W1, hW1⟩ : ∃ W1, w.alloc (.cells #[.string k.1, .int .u64 k.2.1, .int .i64 k.2.2] 37) = W1 := ⟨_, rfl⟩
  have HB1 := Aside0.mk (show Below w.heap.size w W1 by rw [← hW1]; exact below_alloc (Below.refl _ _) _)
  have HX1 := Aside0.mk (show W1.heap[w.heap.size]? = some (.cells #[.string k.1, .int .u64 k.2.1, .int .i64 k.2.2] 37 (0, 0)) by rw [← hW1]; exact blk_new w _)
  have H1 := Aside0.mk (h.below HB1.out)
  have HE1 := Aside0.mk hW1
  have HF := Aside0.mk h.fine
  clear hW1
  have HTR := Aside0.mk (tr_before h.fine.1 k)
  clear h
  go_enter Try.func56, Try.ntmps56
  go_wp2_with fail
  rw [HE1.out]
  (with_reducible refine (sk_none g base most S _ H1.out).mono ?_)
  rintro e w1 ⟨rfl, rfl⟩
  have x0 := blk_cell HX1.out 0
  have x1 := blk_cell HX1.out 1
  have x2 := blk_cell HX1.out 2
  go_wp2_with fail
  (with_reducible refine (sk_trail g base most S k _ H1.out).mono ?_)
  rintro e w2 ⟨rfl, hb⟩
  have HB2 := Aside0.mk (below_step HB1.out hb)
  have hix := fun W => idx12 (ei (tr S.ht 0 (S.below k))) (ei (tr S.ht 1 (S.below k))) (ei (tr S.ht 2 (S.below k))) (ei (tr S.ht 3 (S.below k))) (ei (tr S.ht 4 (S.below k))) (ei (tr S.ht 5 (S.below k))) (ei (tr S.ht 6 (S.below k))) (ei (tr S.ht 7 (S.below k))) (ei (tr S.ht 8 (S.below k))) (ei (tr S.ht 9 (S.below k))) (ei (tr S.ht 10 (S.below k))) (ei (tr S.ht 11 (S.below k))) W
  have hix2 : ∀ W : World, (Instr.index 85 (.agg (ac12 (trL S k))) (.int .i64 0)).run Try.prog W = .ok (.int .i64 ((S.before k : Nat) : Int)) W := by
    intro W
    rw [← HTR.out]
    exact hix W
  clear hb hix x0 x1 x2
  go_wp2
  go_ret
  exact ⟨rfl, HB2.out⟩
set_option maxHeartbeats 4000000 in
set_option maxRecDepth 100000 in
theorem sk_seek (g base most : Nat) (S : SL ByteArray) (k : IK) (w : World) (h : SkAt w g base S most) :
    Calls Try.prog 54 #[.pointer (some ⟨g, 0, none⟩), .agg #[.string k.1, .int .u64 k.2.1, .int .i64 k.2.2]] w fun e w' => e = .returned (.int .i64 ((S.seek k : Nat) : Int)) ∧ Below w.heap.size w w' := by
  obtain ⟨W1, hW1⟩ : ∃ W1, w.alloc (.cells #[.string k.1, .int .u64 k.2.1, .int .i64 k.2.2] 37) = W1 := ⟨_, rfl⟩
  have HB1 := Aside0.mk (show Below w.heap.size w W1 by rw [← hW1]; exact below_alloc (Below.refl _ _) _)
  have HX1 := Aside0.mk (show W1.heap[w.heap.size]? = some (.cells #[.string k.1, .int .u64 k.2.1, .int .i64 k.2.2] 37 (0, 0)) by rw [← hW1]; exact blk_new w _)
  have H1 := Aside0.mk (h.below HB1.out)
  have HE1 := Aside0.mk hW1
  have HF := Aside0.mk h.fine
  clear hW1
  obtain ⟨b, c, ns, h1, h2, _, _, hM⟩ := H1.out.reads
  have hf := h.fine
  have hbl := before_lt hf.1 k
  have hsl := seek_lt hf.1 k
  have q0 : W1.cell? ⟨g, 0, none⟩ = some (.slice (some ⟨b, 0, none⟩) (S.nodes.length + 1) c) := (blk_cell h1 0).trans rfl
  have q1 := h2 (S.before k) 0 (by omega) (by omega)
  rw [next_before hf.1 hM k, ← Nat.add_assoc] at q1
  have x0 := blk_cell HX1.out 0
  have x1 := blk_cell HX1.out 1
  have x2 := blk_cell HX1.out 2
  have HBC := Aside0.mk (fun W (hb : Below W1.heap.size W1 W) => sk_before g base most S k W (H1.out.below hb))
  obtain ⟨n, hn⟩ : ∃ n, S.nodes.length + 1 = n := ⟨_, rfl⟩
  obtain ⟨p, hp⟩ : ∃ p, S.before k = p := ⟨_, rfl⟩
  obtain ⟨r, hr⟩ : ∃ r, S.seek k = r := ⟨_, rfl⟩
  rw [hp] at HBC q1 hbl
  rw [hr] at q1 hsl ⊢
  rw [hn] at q0
  have hpn : p < n := by omega
  have hrb : r ≤ 1048576 := by omega
  have hn1 : n ≤ 1048577 := by omega
  have HW := Aside0.mk (show wrap64 (r : Int) = (r : Int) by unfold wrap64; omega)
  clear h h1 h2 hf hM hbl hsl hn hp hr
  go_enter Try.func54, Try.ntmps54
  go_wp2_with fail
  rw [HE1.out]
  (with_reducible refine (sk_none g base most S _ H1.out).mono ?_)
  rintro e w1 ⟨rfl, rfl⟩
  go_wp2_with fail
  refine start_ (n := 13) (S := fun w' => w'.cell? ⟨g, 0, none⟩ = some (.slice (some ⟨b, 0, none⟩) n c) ∧ w'.cell? ⟨w.heap.size, 0, none⟩ = some (.string k.1) ∧ w'.cell? ⟨w.heap.size, 1, none⟩ = some (.int .u64 k.2.1) ∧ w'.cell? ⟨w.heap.size, 2, none⟩ = some (.int .i64 k.2.2) ∧ w'.cell? ⟨b, p * 18 + 5, none⟩ = some (.int .i32 (r : Int))) (ds := []) #[false, false, false, false, false, false, false, false, false, false, false, false, false] (by kernel_rfl) rfl rfl ⟨q0, x0, x1, x2, q1⟩ (fun hHeld => ?_)
  refine pure_ (i := 0) (N := some 7) (v := ?_) (a' := ?_) #[true, false, false, false, false, false, false, false, false, false, false, false, false] rfl rfl (by kernel_rfl) (fun _ _ _ h => h) (Or.inl ⟨by rfl, ?_⟩) ?_ ?_
  rotate_left
  · intro w'
    go_simp
    with_reducible rfl
  rotate_left
  · simp only [Act.put, List.setIfInBounds_toArray, List.set_cons_zero, List.set_cons_succ, i64_w, i32_w]
    rfl
  refine pure_ (i := 1) (N := some 8) (v := ?_) (a' := ?_) #[true, true, false, false, false, false, false, false, false, false, false, false, false] rfl rfl (by kernel_rfl) (fun _ _ _ h => h) (Or.inl ⟨by rfl, ?_⟩) ?_ ?_
  rotate_left
  · intro w'
    go_simp
    with_reducible rfl
  rotate_left
  · simp only [Act.put, List.setIfInBounds_toArray, List.set_cons_zero, List.set_cons_succ, i64_w, i32_w]
    rfl
  refine pure_ (i := 2) (N := some 9) (v := ?_) (a' := ?_) #[true, true, true, false, false, false, false, false, false, false, false, false, false] rfl rfl (by kernel_rfl) (fun _ _ _ h => h) (Or.inl ⟨by rfl, ?_⟩) ?_ ?_
  rotate_left
  · intro w'
    go_simp
    with_reducible rfl
  rotate_left
  · simp only [Act.put, List.setIfInBounds_toArray, List.set_cons_zero, List.set_cons_succ, i64_w, i32_w]
    rfl
  refine pure_ (i := 4) (N := some 11) (v := ?_) (a' := ?_) #[true, true, true, false, true, false, false, false, false, false, false, false, false] rfl rfl (by kernel_rfl) (fun _ _ _ h => h) (Or.inl ⟨by rfl, ?_⟩) ?_ ?_
  rotate_left
  · intro w'
    go_simp
    with_reducible rfl
  rotate_left
  · simp only [Act.put, List.setIfInBounds_toArray, List.set_cons_zero, List.set_cons_succ, i64_w, i32_w]
    rfl
  refine take_ (i := 3) (N := some 10) (v := ?_) (a' := ?_) #[true, true, true, true, true, false, false, false, false, false, false, false, false] rfl rfl (by kernel_rfl) (fun _ _ _ h => h) (Or.inl ⟨by rfl, ?_⟩) hHeld ?_ ?_
  rotate_left
  · rintro w' ⟨s0, s1, s2, s3, s4⟩
    go_simp
    with_reducible rfl
  rotate_left
  · simp only [Act.put, List.setIfInBounds_toArray, List.set_cons_zero, List.set_cons_succ, i64_w, i32_w]
    rfl
  refine take_ (i := 5) (N := some 12) (v := ?_) (a' := ?_) #[true, true, true, true, true, true, false, false, false, false, false, false, false] rfl rfl (by kernel_rfl) (fun _ _ _ h => h) (Or.inl ⟨by rfl, ?_⟩) hHeld ?_ ?_
  rotate_left
  · rintro w' ⟨s0, s1, s2, s3, s4⟩
    go_simp
    with_reducible rfl
  rotate_left
  · simp only [Act.put, List.setIfInBounds_toArray, List.set_cons_zero, List.set_cons_succ, i64_w, i32_w]
    rfl
  refine one_ (i := 6) (N := some 13) #[true, true, true, true, true, true, true, false, false, false, false, false, false] rfl rfl (by kernel_rfl) (by decide) (fun K hK => ?_)
  refine goes_ Try.func56 (by kernel_rfl) rfl #[.pointer (some ⟨g, 0, none⟩), .agg #[.string k.1, .int .u64 k.2.1, .int .i64 k.2.2]] (by rfl) rfl rfl (by simp only [List.map_toArray, List.map_cons, List.map_nil]; rfl) ?_
  with_reducible refine (HBC.out _ (below_drew1 (Below.refl _ _))).mono ?_
  rintro e w3 ⟨rfl, hb⟩
  refine ⟨_, rfl, ?_⟩
  have HD := Aside0.mk (show Below W1.heap.size W1 w3 from below_step (below_drew1 (Below.refl _ _)) hb)
  clear hb
  refine hK.out _ _ ⟨pw_cell_below HD.out q0, pw_cell_below HD.out x0, pw_cell_below HD.out x1, pw_cell_below HD.out x2, pw_cell_below HD.out q1⟩ (fun hHeld => ?_)
  clear hK K
  refine norm_ (a' := ?_) ?_ ?_
  rotate_left
  · show Act.put _ (some 13) _ = _
    simp only [Act.put, List.setIfInBounds_toArray, List.set_cons_zero, List.set_cons_succ, i64_w, i32_w]
    rfl
  refine pure_ (i := 7) (N := some 14) (v := ?_) (a' := ?_) #[true, true, true, true, true, true, true, true, false, false, false, false, false] rfl rfl (by kernel_rfl) (fun _ _ _ h => h) (Or.inl ⟨by rfl, ?_⟩) ?_ ?_
  rotate_left
  · intro w'
    go_simp
    with_reducible rfl
  rotate_left
  · simp only [Act.put, List.setIfInBounds_toArray, List.set_cons_zero, List.set_cons_succ, i64_w, i32_w]
    rfl
  refine pure_ (i := 8) (N := some 15) (v := ?_) (a' := ?_) #[true, true, true, true, true, true, true, true, true, false, false, false, false] rfl rfl (by kernel_rfl) (fun _ _ _ h => h) (Or.inl ⟨by rfl, ?_⟩) ?_ ?_
  rotate_left
  · intro w'
    go_simp
    with_reducible rfl
  rotate_left
  · simp only [Act.put, List.setIfInBounds_toArray, List.set_cons_zero, List.set_cons_succ, i64_w, i32_w]
    rfl
  refine pure_ (i := 9) (N := some 16) (v := ?_) (a' := ?_) #[true, true, true, true, true, true, true, true, true, true, false, false, false] rfl rfl (by kernel_rfl) (fun _ _ _ h => h) (Or.inl ⟨by rfl, ?_⟩) ?_ ?_
  rotate_left
  · intro w'
    go_simp
    with_reducible rfl
  rotate_left
  · simp only [Act.put, List.setIfInBounds_toArray, List.set_cons_zero, List.set_cons_succ, i64_w, i32_w]
    rfl
  refine take_ (i := 10) (N := some 17) (v := ?_) (a' := ?_) #[true, true, true, true, true, true, true, true, true, true, true, false, false] rfl rfl (by kernel_rfl) (fun _ _ _ h => h) (Or.inl ⟨by rfl, ?_⟩) hHeld ?_ ?_
  rotate_left
  · rintro w' ⟨s0, s1, s2, s3, s4⟩
    go_simp
    with_reducible rfl
  rotate_left
  · simp only [Act.put, List.setIfInBounds_toArray, List.set_cons_zero, List.set_cons_succ, i64_w, i32_w]
    rfl
  refine pure_ (i := 11) (N := some 18) (v := ?_) (a' := ?_) #[true, true, true, true, true, true, true, true, true, true, true, true, false] rfl rfl (by kernel_rfl) (fun _ _ _ h => h) (Or.inl ⟨by rfl, ?_⟩) ?_ ?_
  rotate_left
  · intro w'
    go_simp
    with_reducible rfl
  rotate_left
  · simp only [Act.put, List.setIfInBounds_toArray, List.set_cons_zero, List.set_cons_succ, i64_w, i32_w]
    rfl
  refine pure_ (i := 12) (N := some 4) (v := ?_) (a' := ?_) #[true, true, true, true, true, true, true, true, true, true, true, true, true] rfl rfl (by kernel_rfl) (fun _ _ _ h => h) (Or.inl ⟨by rfl, ?_⟩) ?_ ?_
  rotate_left
  · intro w'
    go_simp
    with_reducible rfl
  rotate_left
  · simp only [Act.put, List.setIfInBounds_toArray, List.set_cons_zero, List.set_cons_succ, i64_w, i32_w]
    rfl
  refine done_ (by kernel_rfl) ?_
  have HB2 := Aside0.mk (below_step HB1.out HD.out)
  go_wp2
  go_ret
  exact ⟨by rw [HW.out]; rfl, HB2.out⟩
end St

end Go.Proofs.Ytehfcafmdnfamaa.G

/- Contracts typed by hand: a skiplist in memory: New (values: texts) -/
namespace Go.Proofs.Ytehfcafmdnfamaa.G
open Go.RowKit Go.Proofs.YtehfcafmdnfamaaW.PrintWords Go.Proofs.YtehfcafmdnfamaaW.PrintLast Go.Proofs.YtehfcafmdnfamaaW.PrintMore
attribute [local go_sem] max2_int min2_int max_two min_two max_three min_three max_four min_four
set_option linter.unusedVariables false
set_option linter.unusedSimpArgs false

/-! a skiplist in memory: New (values: texts) -/
namespace St
def nd0 : ND ByteArray := ⟨noK, (⟨#[]⟩ : ByteArray), 0, List.replicate 12 0, 0⟩
theorem info_nd : (Try.prog.info? 101).map (fun i => (i.zero, i.size, i.bytes)) = some (some (.agg #[.string (⟨#[]⟩ : ByteArray), .int .u64 0, .int .i64 0, encV_ (⟨#[]⟩ : ByteArray), .int .i64 0, .int .i32 0, .int .i32 0, .int .i32 0, .int .i32 0, .int .i32 0, .int .i32 0, .int .i32 0, .int .i32 0, .int .i32 0, .int .i32 0, .int .i32 0, .int .i32 0, .int .i32 0]), 18, 112) := by kernel_rfl
theorem nd0_M (w : World) (base : Nat) (ok : Nat → Prop) : ndK.M w base ok nd0 (Value.agg #[.string (⟨#[]⟩ : ByteArray), .int .u64 0, .int .i64 0, encV_ (⟨#[]⟩ : ByteArray), .int .i64 0, .int .i32 0, .int .i32 0, .int .i32 0, .int .i32 0, .int .i32 0, .int .i32 0, .int .i32 0, .int .i32 0, .int .i32 0, .int .i32 0, .int .i32 0, .int .i32 0, .int .i32 0]).cells.toList := ⟨rfl, rfl⟩
set_option maxHeartbeats 4000000 in
set_option maxRecDepth 100000 in
theorem sk_new (most : Nat) (w : World) (h1 : 1 ≤ most) (h2 : most ≤ 1048576) : Calls Try.prog 34 #[.int .i64 (most : Int)] w fun e w' => ∃ g, e = .returned (.tuple #[.pointer (some ⟨g, 0, none⟩), .int .i64 0]) ∧ SkAt w' g w.heap.size SL.nil most ∧ Below w.heap.size w w' := by
  have HB := Aside0.mk (Below.refl w.heap.size w)
  have H1 := Aside0.mk h1
  have H2 := Aside0.mk h2
  go_enter Try.func34, Try.ntmps34
  go_wp2_with (first | ((with_reducible refine gate_dst (N := 10) rfl ?_); refine Kd.R_make ndK (w0 := w) w.heap.size 101 rfl (N := 10) rfl 93 _ _ rfl 1 rfl rfl Try.underlying93 _ _ info_nd rfl (by decide) (by decide) nd0 (ok := fun _ => True) (okp := fun _ => True) (nd0_M _ _ _) (fun _ _ => trivial) trivial (by decide) (by decide) HB.out (Nat.le_refl _) ?_; intro v1 w1 hr hb hg hbk; obtain ⟨b, c, rfl, hbb, hbl, _⟩ := Kd.R_form hr (by decide); have HR := Aside0.mk hr; have HBN := Aside0.mk hb; clear hr hb hg hbk HB))
  refine bodyPost_ret (by simp [results, Try.results34, go_sem]; rfl) rfl ?_
  refine ⟨_, rfl, ⟨b, c, [nd0], blk_new _ _, Kd.R_alloc HR.out _, mem_nil _ _ _ _ rfl, SL.fine_nil, below_size HBN.out, Nat.zero_le _, H2.out⟩, below_alloc HBN.out _⟩
end St

end Go.Proofs.Ytehfcafmdnfamaa.G

/- Contracts typed by hand: keys compared as structs; blocks of three cells -/
namespace Go.Proofs.Ytehfcafmdnfamaa.G
open Go.RowKit Go.Proofs.YtehfcafmdnfamaaW.PrintWords Go.Proofs.YtehfcafmdnfamaaW.PrintLast Go.Proofs.YtehfcafmdnfamaaW.PrintMore
attribute [local go_sem] max2_int min2_int max_two min_two max_three min_three max_four min_four
set_option linter.unusedVariables false
set_option linter.unusedSimpArgs false

/-! keys compared as structs; blocks of three cells -/
theorem eqAk (d : Nat) (w : World) (x0 y0 : ByteArray) (x1 y1 : Int) (x2 y2 : Int) :
    (Op.equalIn (d + 2) 37 (.agg #[.string x0, .int .u64 x1, .int .i64 x2]) (.agg #[.string y0, .int .u64 y1, .int .i64 y2])).run Try.prog w = .ok (x0.toList == y0.toList && (x1 == y1 && (x2 == y2))) w := by
  refine eqA_of Try.underlying37 (by kernel_rfl) ?_
  refine eqf_cons (by rfl) (by go_simp; rfl) (by go_simp; rfl) (by go_simp) ?_
  refine eqf_cons (by rfl) (by go_simp; rfl) (by go_simp; rfl) (by go_simp) ?_
  exact eqf_last (by rfl) (by go_simp; rfl) (by go_simp; rfl) (by go_simp)
theorem ikey_beq (a k : IK) : (a.1.toList == k.1.toList && (a.2.1 == k.2.1 && a.2.2 == k.2.2)) = decide (a = k) := by
  obtain ⟨a0, a1, a2⟩ := a
  obtain ⟨k0, k1, k2⟩ := k
  rw [Bool.eq_iff_iff]
  simp only [Bool.and_eq_true, beq_iff_eq, decide_eq_true_eq, Prod.mk.injEq]
  constructor
  · rintro ⟨h1, h2, h3⟩
    exact ⟨ba_ext h1, h2, h3⟩
  · rintro ⟨rfl, rfl, rfl⟩
    exact ⟨rfl, rfl, rfl⟩
theorem cell_ne {X : World} {B b i j : Nat} {v : Value} (hne : b ≠ B) : (X.setCell ⟨B, j, none⟩ v).cell? ⟨b, i, none⟩ = X.cell? ⟨b, i, none⟩ := by
  have := Below.heap_setCell X ⟨B, j, none⟩ v b hne
  unfold World.cell?
  rw [this]
theorem cell_ne3 {X Y : World} {B : Nat} {v0 v1 v2 : Value} (h : ((X.setCell ⟨B, 0, none⟩ v0).setCell ⟨B, 1, none⟩ v1).setCell ⟨B, 2, none⟩ v2 = Y) {b i : Nat} {v : Value} (hne : b ≠ B) (q : X.cell? ⟨b, i, none⟩ = some v) : Y.cell? ⟨b, i, none⟩ = some v := by
  rw [← h, cell_ne hne, cell_ne hne, cell_ne hne]; exact q
theorem blk_put3 {X Y : World} {B : Nat} {a0 a1 a2 v0 v1 v2 : Value} {t : TypeId} (h : ((X.setCell ⟨B, 0, none⟩ v0).setCell ⟨B, 1, none⟩ v1).setCell ⟨B, 2, none⟩ v2 = Y) (hx : X.heap[B]? = some (.cells #[a0, a1, a2] t (0, 0))) : Y.heap[B]? = some (.cells #[v0, v1, v2] t (0, 0)) := by
  rw [← h]
  exact blk_set (blk_set (blk_set hx 0 v0) 1 v1) 2 v2
theorem below_set3 {X Y w : World} {B : Nat} {v0 v1 v2 : Value} (h : ((X.setCell ⟨B, 0, none⟩ v0).setCell ⟨B, 1, none⟩ v1).setCell ⟨B, 2, none⟩ v2 = Y) (hb : Below w.heap.size w X) (hn : w.heap.size ≤ B) : Below w.heap.size w Y := by
  rw [← h]
  exact below_set (below_set (below_set hb hn) hn) hn
theorem cell_lt {w : World} {b i : Nat} {v : Value} (h : w.cell? ⟨b, i, none⟩ = some v) : b < w.heap.size := by
  rcases Nat.lt_or_ge b w.heap.size with hb | hb
  · exact hb
  · have h0 : w.heap[b]? = none := Array.getElem?_eq_none hb
    unfold World.cell? at h
    rw [show (⟨b, i, none⟩ : Addr).block = b from rfl, h0] at h
    simp at h
theorem ikey_bne (a k : IK) : (!(a.1.toList == k.1.toList) || (!(a.2.1 == k.2.1) || !(a.2.2 == k.2.2))) = !decide (a = k) := by
  rw [← ikey_beq, Bool.not_and, Bool.not_and]

end Go.Proofs.Ytehfcafmdnfamaa.G

/- Contracts typed by hand: Insert, plain -/
namespace Go.Proofs.Ytehfcafmdnfamaa.G
open Go.RowKit Go.Proofs.YtehfcafmdnfamaaW.PrintWords Go.Proofs.YtehfcafmdnfamaaW.PrintLast Go.Proofs.YtehfcafmdnfamaaW.PrintMore
attribute [local go_sem] max2_int min2_int max_two min_two max_three min_three max_four min_four
set_option linter.unusedVariables false
set_option linter.unusedSimpArgs false

/-! Insert, plain -/
def trt0 {V : Type} (S : SL V) (k : IK) : Nat → Nat := fun j => tr S.ht j (S.below k)
theorem last_put0 {V : Type} {S : SL V} (hS : S.Fine) {k : IK} (v : V) (h : Nat) (hz : S.seek k = 0) : lastOf (S.put k v h).order = S.nodes.length + 1 := by
  have hr : S.rest k = [] := by
    unfold SL.seek at hz
    cases hc : S.rest k with
    | nil => rfl
    | cons z l =>
      rw [hc] at hz
      have := (hS.mem z (SL.mem_rest (k := k) (by rw [hc]; exact List.mem_cons_self ..)).1).1
      simp only [List.headD_cons] at hz
      omega
  unfold SL.put
  rw [hr]
  exact lastOf_snoc _ _
theorem last_put1 {V : Type} {S : SL V} (hS : S.Fine) {k : IK} (v : V) (h : Nat) (hz : S.seek k ≠ 0) : lastOf (S.put k v h).order = lastOf S.order := by
  unfold SL.seek at hz
  cases hc : S.rest k with
  | nil => rw [hc] at hz; exact absurd rfl hz
  | cons z l =>
    have := S.part hS k
    rw [hc] at this
    rw [this]
    unfold SL.put
    rw [hc]
    show lastOf (S.below k ++ (S.nodes.length + 1) :: z :: l) = lastOf (S.below k ++ z :: l)
    rw [lastOf_append_cons, lastOf_append_cons, show (S.nodes.length + 1) :: z :: l = [S.nodes.length + 1] ++ z :: l from rfl, lastOf_append_cons]
theorem trt0_lt {V : Type} {S : SL V} (hS : S.Fine) (k : IK) (j : Nat) : trt0 S k j < S.nodes.length + 1 := tr_lt hS j k
theorem next0 {V : Type} {S : SL V} (hS : S.Fine) {ns : List (ND V)} (hM : Mem S ns) (k : IK) (n : Nat) {h : Nat} (h1 : 1 ≤ h) (h2 : h ≤ 12) : (iterX ns (trt0 S k) n h).getD 0 0 = S.seek k := by
  rw [iterX_get hM.nx12 (fun j => by rw [hM.len]; exact trt0_lt hS k j) n h h2 0, if_pos (by omega)]
  have h3 := hM.links
  rw [S.part hS k] at h3
  have := h3.over (j := 0) (by omega)
  rw [nx_zero fun z hz => (S.ht_pos hS (SL.mem_rest hz).1).1] at this
  exact this
theorem list12 {l : List Nat} (h : l.length = 12) : ∃ a0 a1 a2 a3 a4 a5 a6 a7 a8 a9 a10 a11, l = [a0, a1, a2, a3, a4, a5, a6, a7, a8, a9, a10, a11] := by
  match l, h with
  | [a0, a1, a2, a3, a4, a5, a6, a7, a8, a9, a10, a11], _ => exact ⟨a0, a1, a2, a3, a4, a5, a6, a7, a8, a9, a10, a11, rfl⟩
theorem putN_eq0 {V : Type} {S : SL V} (hS : S.Fine) {ns : List (ND V)} (hM : Mem S ns) (k : IK) (v : V) {h : Nat} (h1 : 1 ≤ h) (h2 : h ≤ 12) (hz : S.seek k = 0) :
    putN S ns k v h = iterL ns (trt0 S k) (S.nodes.length + 1) h ++ [⟨k, v, h, iterX ns (trt0 S k) (S.nodes.length + 1) h, trt0 S k 0⟩] := by
  have h0 := next0 hS hM k (S.nodes.length + 1) h1 h2
  unfold putN
  rw [hM.len]
  show (if (iterX ns (trt0 S k) (S.nodes.length + 1) h).getD 0 0 = 0 then _ else _) = _
  rw [h0, if_pos hz]
  rfl
theorem putN_eq1 {V : Type} {S : SL V} (hS : S.Fine) {ns : List (ND V)} (hM : Mem S ns) (k : IK) (v : V) {h : Nat} (h1 : 1 ≤ h) (h2 : h ≤ 12) (hz : S.seek k ≠ 0) :
    putN S ns k v h = updP (iterL ns (trt0 S k) (S.nodes.length + 1) h ++ [⟨k, v, h, iterX ns (trt0 S k) (S.nodes.length + 1) h, trt0 S k 0⟩]) (S.seek k) (S.nodes.length + 1) := by
  have h0 := next0 hS hM k (S.nodes.length + 1) h1 h2
  unfold putN
  rw [hM.len]
  show (if (iterX ns (trt0 S k) (S.nodes.length + 1) h).getD 0 0 = 0 then _ else updP _ ((iterX ns (trt0 S k) (S.nodes.length + 1) h).getD 0 0) _) = _
  rw [h0, if_neg hz]
  rfl

end Go.Proofs.Ytehfcafmdnfamaa.G

/- Contracts typed by hand: a skiplist in memory: Insert, where it is done (values: texts) -/
namespace Go.Proofs.Ytehfcafmdnfamaa.G
open Go.RowKit Go.Proofs.YtehfcafmdnfamaaW.PrintWords Go.Proofs.YtehfcafmdnfamaaW.PrintLast Go.Proofs.YtehfcafmdnfamaaW.PrintMore
attribute [local go_sem] max2_int min2_int max_two min_two max_three min_three max_four min_four
set_option linter.unusedVariables false
set_option linter.unusedSimpArgs false

/-! a skiplist in memory: Insert, where it is done (values: texts) -/
namespace St
attribute [local go_sem high] eqAk
attribute [local go_sem] max2_int max_two encV_
theorem hi18 : (Try.prog.info? 101).map (·.size) = some 18 := by kernel_rfl
/-- Insert under way: m levels are linked -/
structure InsAt (w W : World) (g base most b c tb xb : Nat) (S : SL ByteArray) (ns : List (ND ByteArray)) (k : IK) (v : ByteArray) (h0 m : Nat) : Prop where
  blk : W.heap[g]? = some (.cells #[.slice (some ⟨b, 0, none⟩) (S.nodes.length + 1) c, .int .i64 (most : Int), .int .i64 (S.height : Int), .int .i64 ((lastOf S.order : Nat) : Int)] 95 (0, 0))
  row : Kd.R ndK 101 W base (fun _ => True) (.slice (some ⟨b, 0, none⟩) (S.nodes.length + 1) c) (iterL ns (trt0 S k) (S.nodes.length + 1) m)
  arr : ArrAt W tb 85 (trL S k)
  node : BlkAt W xb 101 (encN ⟨k, v, h0, iterX ns (trt0 S k) (S.nodes.length + 1) m, trt0 S k 0⟩)
  kept : Kept w W (fun i => i = g ∨ i = b)
  bel : Below base w W
theorem InsAt.drew {w W : World} {g base most b c tb xb : Nat} {S : SL ByteArray} {ns : List (ND ByteArray)} {k : IK} {v : ByteArray} {h0 m : Nat} (h : InsAt w W g base most b c tb xb S ns k v h0 m) : InsAt w W.drew g base most b c tb xb S ns k v h0 m := ⟨blk_drew h.blk, Kd.R_drew h.row, h.arr.drew, h.node.drew, h.kept.drew, ⟨h.bel.os, h.bel.tape, h.bel.output, h.bel.size, h.bel.block⟩⟩
/-- a link is copied into the new node -/
theorem InsAt.copy {w W : World} {g base most b c tb xb : Nat} {S : SL ByteArray} {ns : List (ND ByteArray)} {k : IK} {v : ByteArray} {h0 m : Nat} (h : InsAt w W g base most b c tb xb S ns k v h0 m) (hm : m < 12) (hx : w.heap.size ≤ xb) (hg : g < w.heap.size) (hb : b < w.heap.size) (ht : xb ≠ tb) (hbx : base ≤ xb)
    {W1 : World} (hW : W.setCell ⟨xb, 5 + m, none⟩ (.int .i32 ((nxtOf (iterL ns (trt0 S k) (S.nodes.length + 1) m) m (trt0 S k m) : Nat) : Int)) = W1) :
    W1.heap[g]? = W.heap[g]? ∧ Kd.R ndK 101 W1 base (fun _ => True) (.slice (some ⟨b, 0, none⟩) (S.nodes.length + 1) c) (iterL ns (trt0 S k) (S.nodes.length + 1) m) ∧ ArrAt W1 tb 85 (trL S k) ∧ BlkAt W1 xb 101 (encN ⟨k, v, h0, iterX ns (trt0 S k) (S.nodes.length + 1) (m + 1), trt0 S k 0⟩) ∧ Kept w W1 (fun i => i = g ∨ i = b) ∧ Below base w W1 := by
  subst hW
  have hrow : Kd.R ndK 101 (W.setCell ⟨xb, 5 + m, none⟩ (.int .i32 ((nxtOf (iterL ns (trt0 S k) (S.nodes.length + 1) m) m (trt0 S k m) : Nat) : Int))) base (fun _ => True) (.slice (some ⟨b, 0, none⟩) (S.nodes.length + 1) c) (iterL ns (trt0 S k) (S.nodes.length + 1) m) := by
    refine ndR_move h.row fun q hq => Below.heap_setCell _ _ _ _ ?_
    have : b = q := by simpa [Value.ownBlock] using hq
    show q ≠ xb
    omega
  refine ⟨Below.heap_setCell _ _ _ _ (by show g ≠ xb; omega), hrow, h.arr.other (Ne.symm ht) _ _, ?_, h.kept.setCell (Or.inr hx) _, h.bel.setCell hbx _⟩
  have := h.node.set (5 + m) (.int .i32 ((nxtOf (iterL ns (trt0 S k) (S.nodes.length + 1) m) m (trt0 S k m) : Nat) : Int))
  rw [encN_set_next _ (iterX_len _ _ _ _) _ _ hm] at this
  exact this
/-- .. and the node of the trail gets the new one's number -/
theorem InsAt.link {w W : World} {g base most b c tb xb : Nat} {S : SL ByteArray} {ns : List (ND ByteArray)} {k : IK} {v : ByteArray} {h0 m : Nat} (hS : S.Fine) (hm : m < 12) (hx : w.heap.size ≤ xb) (hg : g < w.heap.size) (hb : b < w.heap.size) (hgb : g ≠ b) (htb : w.heap.size ≤ tb)
    (hblk : W.heap[g]? = some (.cells #[.slice (some ⟨b, 0, none⟩) (S.nodes.length + 1) c, .int .i64 (most : Int), .int .i64 (S.height : Int), .int .i64 ((lastOf S.order : Nat) : Int)] 95 (0, 0)))
    (hrow : Kd.R ndK 101 W base (fun _ => True) (.slice (some ⟨b, 0, none⟩) (S.nodes.length + 1) c) (iterL ns (trt0 S k) (S.nodes.length + 1) m)) (harr : ArrAt W tb 85 (trL S k))
    (hnode : BlkAt W xb 101 (encN ⟨k, v, h0, iterX ns (trt0 S k) (S.nodes.length + 1) (m + 1), trt0 S k 0⟩)) (hkept : Kept w W (fun i => i = g ∨ i = b)) (hbel : Below base w W) (hbb : base ≤ b)
    {W1 : World} (hW : W.setCell ⟨b, trt0 S k m * 18 + (5 + m), none⟩ (.int .i32 ((S.nodes.length + 1 : Nat) : Int)) = W1) : InsAt w W1 g base most b c tb xb S ns k v h0 (m + 1) := by
  subst hW
  exact ⟨(Below.heap_setCell _ _ _ _ hgb).trans hblk, ndR_next hrow (trt0_lt hS k m) hm, harr.other (by omega) _ _, hnode.other (by omega) _ _, hkept.setCell (Or.inl (Or.inr rfl)) _, hbel.setCell hbb _⟩
/-- what a round reads -/
theorem InsAt.reads {w W : World} {g base most b c tb xb : Nat} {S : SL ByteArray} {ns : List (ND ByteArray)} {k : IK} {v : ByteArray} {h0 m : Nat} (hS : S.Fine) (hm : m < 12) (h : InsAt w W g base most b c tb xb S ns k v h0 m) :
    W.cell? ⟨g, 0, none⟩ = some (.slice (some ⟨b, 0, none⟩) (S.nodes.length + 1) c) ∧ W.cell? ⟨tb, m, none⟩ = some (.int .i64 ((trt0 S k m : Nat) : Int)) ∧ W.cell? ⟨b, trt0 S k m * 18 + 5 + m, none⟩ = some (.int .i32 ((nxtOf (iterL ns (trt0 S k) (S.nodes.length + 1) m) m (trt0 S k m) : Nat) : Int)) ∧
      (∃ u, W.cell? ⟨xb, 5 + m, none⟩ = some u) ∧ W.frozen? ⟨xb, 5 + m, none⟩ = false := by
  refine ⟨(blk_cell h.blk 0).trans rfl, ?_, ?_, ⟨_, h.node.cell (encN_next _ m (by rw [iterX_len]; exact hm))⟩, h.node.frozen _⟩
  · have := h.arr.cell m (by rw [trL_len]; exact hm)
    rw [trL_get S k m hm] at this
    exact this
  · obtain ⟨x, a1, a2, a3, _⟩ := node_cells h.row (trt0 S k m) (trt0_lt hS k m)
    have := a3 (5 + m) _ (encN_next x m (by omega))
    rw [← Nat.add_assoc] at this
    unfold nxtOf
    rw [a1]
    exact this
theorem ins_done {W : World} {g base most b2 c2 la hi : Nat} {S : SL ByteArray} {nl row : List (ND ByteArray)} {k : IK} {v : ByteArray} {h0 : Nat} (hS : S.Fine) (hM : Mem S nl) (hfi : S.find k = 0) (h1 : 1 ≤ h0) (h2 : h0 ≤ 12) (hput : putN S nl k v h0 = row) (hbg : base ≤ g) (hmo : S.nodes.length < most ∧ most ≤ 1048576)
    (hblk : W.heap[g]? = some (.cells #[.slice (some ⟨b2, 0, none⟩) (S.nodes.length + 1 + 1) c2, .int .i64 (most : Int), .int .i64 (hi : Int), .int .i64 (la : Int)] 95 (0, 0))) (hrow : Kd.R ndK 101 W base (fun _ => True) (.slice (some ⟨b2, 0, none⟩) (S.nodes.length + 1 + 1) c2) row)
    (hla : la = lastOf (S.put k v h0).order) (hhi : hi = max S.height h0) : SkAt W g base (S.put k v h0) most := by
  have hM2 := Mem.put hS hM (k := k) v h1 h2
  have hl : (putN S nl k v h0).length = S.nodes.length + 1 + 1 := by rw [hM2.len]; simp [SL.put]
  refine ⟨b2, c2, putN S nl k v h0, ?_, ?_, hM2, SL.fine_put hS hfi v h1 h2, hbg, ?_, hmo.2⟩
  · rw [hl, SL.height_put, ← hla, ← hhi]; exact hblk
  · rw [hl, hput]; exact hrow
  · simp only [SL.put, List.length_append, List.length_cons, List.length_nil]; omega
set_option maxHeartbeats 32000000 in
set_option maxRecDepth 100000 in
theorem sk_ins0z (g base most : Nat) (S : SL ByteArray) (k : IK) (v : ByteArray) (h0 : Nat) (w : World) (h : SkAt w g base S most) (hv : ikey_Valid.f k.1 k.2.1 k.2.2 = some true) (hlo : 1 ≤ (h0 : Int)) (hhi : (h0 : Int) ≤ 12) (hn : S.seek k = 0) (hfu : S.nodes.length < most) :
    Calls Try.prog 36 #[.pointer (some ⟨g, 0, none⟩), .agg #[.string k.1, .int .u64 k.2.1, .int .i64 k.2.2], encV_ v, .int .i64 (h0 : Int)] w fun e w' => e = .returned (.int .i64 0) ∧ SkAt w' g base (S.put k v h0) most ∧ Below base w w' ∧ Kept w w' (fun i => i = g ∨ (base ≤ i ∧ ∃ cs, w.heap[i]? = some (.cells cs 101 (0, 0)))) := by
  obtain ⟨W1, hW1⟩ : ∃ W1, w.alloc (.cells #[.string k.1, .int .u64 k.2.1, .int .i64 k.2.2] 37) = W1 := ⟨_, rfl⟩
  have HB1 := Aside0.mk (show Below w.heap.size w W1 by rw [← hW1]; exact below_alloc (Below.refl _ _) _)
  have HX1 := Aside0.mk (show W1.heap[w.heap.size]? = some (.cells #[.string k.1, .int .u64 k.2.1, .int .i64 k.2.2] 37 (0, 0)) by rw [← hW1]; exact blk_new w _)
  have H1 := Aside0.mk (h.below HB1.out)
  have HE1 := Aside0.mk hW1
  have HF := Aside0.mk h.fine
  clear hW1
  have x0 := blk_cell HX1.out 0
  have x1 := blk_cell HX1.out 1
  have x2 := blk_cell HX1.out 2
  have HV := Aside0.mk hv
  have hkp := h.fine
  clear hv
  have hkw := h
  obtain ⟨bb, cc, nl, i1, i2, iM, iS, ibg, inm, im⟩ := hkw
  have hlen := iM.len
  rw [hlen] at i1 i2
  have hgw := h.lt
  have hgb : g ≠ bb := by
    have := Kd.R_ne i2 i1 (by decide)
    simpa [Value.ownBlock] using this
  have hbw : bb < w.heap.size := Kd.R_lt i2 bb rfl
  have hbb : base ≤ bb := Kd.R_base i2 bb rfl
  have HBT := Aside0.mk (show ∃ cs, w.heap[bb]? = some (.cells cs 101 (0, 0)) by obtain ⟨inner, ho⟩ := Kd.R_own i2; exact own_typed ho bb rfl)
  have HI1 := Aside0.mk i1
  have HI2 := Aside0.mk i2
  have HIM := Aside0.mk iM
  obtain ⟨N, hN1⟩ : ∃ N, S.nodes.length + 1 = N := ⟨_, rfl⟩
  have HN1 := Aside0.mk hN1
  have hNb : N ≤ 1048577 := by have := h.fine.2.1; omega
  have hN0 : 0 < N := by omega
  have HW32 := Aside0.mk (show wrap32 (N : Int) = (N : Int) by unfold wrap32; omega)
  have HMO := Aside0.mk (show S.nodes.length < most ∧ most ≤ 1048576 from ⟨hfu, im⟩)
  have HH0 := Aside0.mk (show 1 ≤ h0 ∧ h0 ≤ 12 from ⟨by omega, by omega⟩)
  have h012 : h0 ≤ 12 := by omega
  clear i1 i2 iM hlen inm im iS hN1
  have a1 : decide ((h0 : Int) < 1) = false := decide_eq_false (by omega)
  have a2 : decide ((h0 : Int) > 12) = false := decide_eq_false (by omega)
  have HFU := Aside0.mk hfu
  have HFI := Aside0.mk (show S.find k = 0 by unfold SL.find; rw [if_neg (by rw [hn]; rintro ⟨h, _⟩; exact h rfl)])
  have HN := Aside0.mk hn
  clear hn hfu
  clear h hkp
  go_enter Try.func36, Try.ntmps36
  go_wp2_with fail
  rw [HE1.out]
  (with_reducible refine (sk_none g base most S _ H1.out).mono ?_)
  rintro e w1 ⟨rfl, rfl⟩
  go_wp2_with fail
  (with_reducible refine (ikey_Valid.calls _ _ _ _ _ HV.out).mono ?_)
  rintro e w2 ⟨rfl, hb⟩
  have HB2 := Aside0.mk (below_step HB1.out hb)
  have H2 := Aside0.mk (H1.out.below hb)
  have HX2 := Aside0.mk (blk_below HX1.out hb)
  clear hb x0 x1 x2
  have x0 := blk_cell HX2.out 0
  have x1 := blk_cell HX2.out 1
  have x2 := blk_cell HX2.out 2
  go_wp2_with fail
  (with_reducible refine (sk_seek g base most S k _ H2.out).mono ?_)
  rintro e w3 ⟨rfl, hb⟩
  have HB3 := Aside0.mk (below_step HB2.out hb)
  have H3 := Aside0.mk (H2.out.below hb)
  have HX3 := Aside0.mk (blk_below HX2.out hb)
  clear hb x0 x1 x2
  rw [HN.out]
  have b3 : ((0 : Int) == 0) = true := rfl
  have b4 : ((0 : Int) != 0) = false := rfl
  go_wp2_with fail
  refine start_ (n := 14) (S := fun w' => True) (ds := []) #[false, false, false, false, false, false, false, false, false, false, false, false, false, false] (by kernel_rfl) rfl rfl trivial (fun hHeld => ?_)
  refine pure_ (i := 0) (N := some 32) (v := ?_) (a' := ?_) #[true, false, false, false, false, false, false, false, false, false, false, false, false, false] rfl rfl (by kernel_rfl) (fun _ _ _ h => h) (Or.inl ⟨by rfl, ?_⟩) ?_ ?_
  rotate_left
  · intro w'
    go_simp
    with_reducible rfl
  rotate_left
  · simp only [Act.put, List.setIfInBounds_toArray, List.set_cons_zero, List.set_cons_succ, i64_w, i32_w]
    rfl
  refine pure_ (i := 1) (N := some 33) (v := ?_) (a' := ?_) #[true, true, false, false, false, false, false, false, false, false, false, false, false, false] rfl rfl (by kernel_rfl) (fun _ _ _ h => h) (Or.inl ⟨by rfl, ?_⟩) ?_ ?_
  rotate_left
  · intro w'
    go_simp
    with_reducible rfl
  rotate_left
  · simp only [Act.put, List.setIfInBounds_toArray, List.set_cons_zero, List.set_cons_succ, i64_w, i32_w]
    rfl
  refine pure_ (i := 2) (N := some 34) (v := ?_) (a' := ?_) #[true, true, true, false, false, false, false, false, false, false, false, false, false, false] rfl rfl (by kernel_rfl) (fun _ _ _ h => h) (Or.inl ⟨by rfl, ?_⟩) ?_ ?_
  rotate_left
  · intro w'
    go_simp
    with_reducible rfl
  rotate_left
  · simp only [Act.put, List.setIfInBounds_toArray, List.set_cons_zero, List.set_cons_succ, i64_w, i32_w]
    rfl
  refine pure_ (i := 3) (N := some 35) (v := undef) (a' := ?_) #[true, true, true, true, false, false, false, false, false, false, false, false, false, false] rfl rfl (by kernel_rfl) (fun _ _ _ h => h) (Or.inr ⟨by rfl, rfl⟩) ?_ ?_
  rotate_left
  · simp only [Act.put, List.setIfInBounds_toArray, List.set_cons_zero, List.set_cons_succ, i64_w, i32_w]
    rfl
  refine pure_ (i := 4) (N := some 36) (v := undef) (a' := ?_) #[true, true, true, true, true, false, false, false, false, false, false, false, false, false] rfl rfl (by kernel_rfl) (fun _ _ _ h => h) (Or.inr ⟨by rfl, rfl⟩) ?_ ?_
  rotate_left
  · simp only [Act.put, List.setIfInBounds_toArray, List.set_cons_zero, List.set_cons_succ, i64_w, i32_w]
    rfl
  refine pure_ (i := 5) (N := some 37) (v := undef) (a' := ?_) #[true, true, true, true, true, true, false, false, false, false, false, false, false, false] rfl rfl (by kernel_rfl) (fun _ _ _ h => h) (Or.inr ⟨by rfl, rfl⟩) ?_ ?_
  rotate_left
  · simp only [Act.put, List.setIfInBounds_toArray, List.set_cons_zero, List.set_cons_succ, i64_w, i32_w]
    rfl
  refine pure_ (i := 6) (N := some 38) (v := undef) (a' := ?_) #[true, true, true, true, true, true, true, false, false, false, false, false, false, false] rfl rfl (by kernel_rfl) (fun _ _ _ h => h) (Or.inr ⟨by rfl, rfl⟩) ?_ ?_
  rotate_left
  · simp only [Act.put, List.setIfInBounds_toArray, List.set_cons_zero, List.set_cons_succ, i64_w, i32_w]
    rfl
  refine pure_ (i := 7) (N := some 39) (v := undef) (a' := ?_) #[true, true, true, true, true, true, true, true, false, false, false, false, false, false] rfl rfl (by kernel_rfl) (fun _ _ _ h => h) (Or.inr ⟨by rfl, rfl⟩) ?_ ?_
  rotate_left
  · simp only [Act.put, List.setIfInBounds_toArray, List.set_cons_zero, List.set_cons_succ, i64_w, i32_w]
    rfl
  refine pure_ (i := 8) (N := some 40) (v := undef) (a' := ?_) #[true, true, true, true, true, true, true, true, true, false, false, false, false, false] rfl rfl (by kernel_rfl) (fun _ _ _ h => h) (Or.inr ⟨by rfl, rfl⟩) ?_ ?_
  rotate_left
  · simp only [Act.put, List.setIfInBounds_toArray, List.set_cons_zero, List.set_cons_succ, i64_w, i32_w]
    rfl
  refine pure_ (i := 9) (N := some 41) (v := undef) (a' := ?_) #[true, true, true, true, true, true, true, true, true, true, false, false, false, false] rfl rfl (by kernel_rfl) (fun _ _ _ h => h) (Or.inr ⟨by rfl, rfl⟩) ?_ ?_
  rotate_left
  · simp only [Act.put, List.setIfInBounds_toArray, List.set_cons_zero, List.set_cons_succ, i64_w, i32_w]
    rfl
  refine pure_ (i := 10) (N := some 42) (v := undef) (a' := ?_) #[true, true, true, true, true, true, true, true, true, true, true, false, false, false] rfl rfl (by kernel_rfl) (fun _ _ _ h => h) (Or.inr ⟨by rfl, rfl⟩) ?_ ?_
  rotate_left
  · simp only [Act.put, List.setIfInBounds_toArray, List.set_cons_zero, List.set_cons_succ, i64_w, i32_w]
    rfl
  refine pure_ (i := 11) (N := some 43) (v := undef) (a' := ?_) #[true, true, true, true, true, true, true, true, true, true, true, true, false, false] rfl rfl (by kernel_rfl) (fun _ _ _ h => h) (Or.inr ⟨by rfl, rfl⟩) ?_ ?_
  rotate_left
  · simp only [Act.put, List.setIfInBounds_toArray, List.set_cons_zero, List.set_cons_succ, i64_w, i32_w]
    rfl
  refine pure_ (i := 12) (N := some 44) (v := undef) (a' := ?_) #[true, true, true, true, true, true, true, true, true, true, true, true, true, false] rfl rfl (by kernel_rfl) (fun _ _ _ h => h) (Or.inr ⟨by rfl, rfl⟩) ?_ ?_
  rotate_left
  · simp only [Act.put, List.setIfInBounds_toArray, List.set_cons_zero, List.set_cons_succ, i64_w, i32_w]
    rfl
  refine pure_ (i := 13) (N := some 45) (v := ?_) (a' := ?_) #[true, true, true, true, true, true, true, true, true, true, true, true, true, true] rfl rfl (by kernel_rfl) (fun _ _ _ h => h) (Or.inl ⟨by rfl, ?_⟩) ?_ ?_
  rotate_left
  · intro w'
    go_simp
    with_reducible rfl
  rotate_left
  · simp only [Act.put, List.setIfInBounds_toArray, List.set_cons_zero, List.set_cons_succ, i64_w, i32_w]
    rfl
  refine done_ (by kernel_rfl) ?_
  obtain ⟨b, c, ns, h1, _⟩ := (show SkAt w3.drew g base S most from H3.out.below (below_drew1 (Below.refl _ _))).reads
  have q0 : w3.drew.cell? ⟨g, 0, none⟩ = some (.slice (some ⟨b, 0, none⟩) (S.nodes.length + 1) c) := (blk_cell h1 0).trans rfl
  have q1 : w3.drew.cell? ⟨g, 1, none⟩ = some (.int .i64 (most : Int)) := (blk_cell h1 1).trans rfl
  obtain ⟨m, hm⟩ : ∃ m, S.nodes.length + 1 = m := ⟨_, rfl⟩
  rw [hm] at q0
  have b5 : decide ((m : Int) > (most : Int)) = false := decide_eq_false (by have := HFU.out; omega)
  have b6 : decide (most < m) = false := decide_eq_false (by have := HFU.out; omega)
  clear h1 hm
  go_wp2_with fail
  refine start_ (n := 10) (S := fun w' => w'.cell? ⟨g, 0, none⟩ = some (.slice (some ⟨b, 0, none⟩) m c) ∧ w'.cell? ⟨g, 1, none⟩ = some (.int .i64 (most : Int))) (ds := []) #[false, false, false, false, false, false, false, false, false, false] (by kernel_rfl) rfl rfl ⟨q0, q1⟩ (fun hHeld => ?_)
  refine pure_ (i := 0) (N := some 46) (v := ?_) (a' := ?_) #[true, false, false, false, false, false, false, false, false, false] rfl rfl (by kernel_rfl) (fun _ _ _ h => h) (Or.inl ⟨by rfl, ?_⟩) ?_ ?_
  rotate_left
  · intro w'
    go_simp
    with_reducible rfl
  rotate_left
  · simp only [Act.put, List.setIfInBounds_toArray, List.set_cons_zero, List.set_cons_succ, i64_w, i32_w]
    rfl
  refine pure_ (i := 1) (N := some 47) (v := ?_) (a' := ?_) #[true, true, false, false, false, false, false, false, false, false] rfl rfl (by kernel_rfl) (fun _ _ _ h => h) (Or.inl ⟨by rfl, ?_⟩) ?_ ?_
  rotate_left
  · intro w'
    go_simp
    with_reducible rfl
  rotate_left
  · simp only [Act.put, List.setIfInBounds_toArray, List.set_cons_zero, List.set_cons_succ, i64_w, i32_w]
    rfl
  refine pure_ (i := 2) (N := some 48) (v := ?_) (a' := ?_) #[true, true, true, false, false, false, false, false, false, false] rfl rfl (by kernel_rfl) (fun _ _ _ h => h) (Or.inl ⟨by rfl, ?_⟩) ?_ ?_
  rotate_left
  · intro w'
    go_simp
    with_reducible rfl
  rotate_left
  · simp only [Act.put, List.setIfInBounds_toArray, List.set_cons_zero, List.set_cons_succ, i64_w, i32_w]
    rfl
  refine pure_ (i := 5) (N := some 51) (v := ?_) (a' := ?_) #[true, true, true, false, false, true, false, false, false, false] rfl rfl (by kernel_rfl) (fun _ _ _ h => h) (Or.inl ⟨by rfl, ?_⟩) ?_ ?_
  rotate_left
  · intro w'
    go_simp
    with_reducible rfl
  rotate_left
  · simp only [Act.put, List.setIfInBounds_toArray, List.set_cons_zero, List.set_cons_succ, i64_w, i32_w]
    rfl
  refine pure_ (i := 6) (N := some 52) (v := ?_) (a' := ?_) #[true, true, true, false, false, true, true, false, false, false] rfl rfl (by kernel_rfl) (fun _ _ _ h => h) (Or.inl ⟨by rfl, ?_⟩) ?_ ?_
  rotate_left
  · intro w'
    go_simp
    with_reducible rfl
  rotate_left
  · simp only [Act.put, List.setIfInBounds_toArray, List.set_cons_zero, List.set_cons_succ, i64_w, i32_w]
    rfl
  refine pure_ (i := 7) (N := some 53) (v := ?_) (a' := ?_) #[true, true, true, false, false, true, true, true, false, false] rfl rfl (by kernel_rfl) (fun _ _ _ h => h) (Or.inl ⟨by rfl, ?_⟩) ?_ ?_
  rotate_left
  · intro w'
    go_simp
    with_reducible rfl
  rotate_left
  · simp only [Act.put, List.setIfInBounds_toArray, List.set_cons_zero, List.set_cons_succ, i64_w, i32_w]
    rfl
  refine take_ (i := 3) (N := some 49) (v := ?_) (a' := ?_) #[true, true, true, true, false, true, true, true, false, false] rfl rfl (by kernel_rfl) (fun _ _ _ h => h) (Or.inl ⟨by rfl, ?_⟩) hHeld ?_ ?_
  rotate_left
  · rintro w' ⟨s0, s1⟩
    go_simp
    with_reducible rfl
  rotate_left
  · simp only [Act.put, List.setIfInBounds_toArray, List.set_cons_zero, List.set_cons_succ, i64_w, i32_w]
    rfl
  refine pure_ (i := 4) (N := some 50) (v := ?_) (a' := ?_) #[true, true, true, true, true, true, true, true, false, false] rfl rfl (by kernel_rfl) (fun _ _ _ h => h) (Or.inl ⟨by rfl, ?_⟩) ?_ ?_
  rotate_left
  · intro w'
    go_simp
    with_reducible rfl
  rotate_left
  · simp only [Act.put, List.setIfInBounds_toArray, List.set_cons_zero, List.set_cons_succ, i64_w, i32_w]
    rfl
  refine take_ (i := 8) (N := some 54) (v := ?_) (a' := ?_) #[true, true, true, true, true, true, true, true, true, false] rfl rfl (by kernel_rfl) (fun _ _ _ h => h) (Or.inl ⟨by rfl, ?_⟩) hHeld ?_ ?_
  rotate_left
  · rintro w' ⟨s0, s1⟩
    go_simp
    with_reducible rfl
  rotate_left
  · simp only [Act.put, List.setIfInBounds_toArray, List.set_cons_zero, List.set_cons_succ, i64_w, i32_w]
    rfl
  refine pure_ (i := 9) (N := some 55) (v := ?_) (a' := ?_) #[true, true, true, true, true, true, true, true, true, true] rfl rfl (by kernel_rfl) (fun _ _ _ h => h) (Or.inl ⟨by rfl, ?_⟩) ?_ ?_
  rotate_left
  · intro w'
    go_simp
    with_reducible rfl
  rotate_left
  · simp only [Act.put, List.setIfInBounds_toArray, List.set_cons_zero, List.set_cons_succ, i64_w, i32_w]
    rfl
  refine done_ (by kernel_rfl) ?_
  first | simp only [b6] | simp only [b5] | skip
  clear q0 q1
  have H4 := Aside0.mk (show SkAt w3.drew.drew g base S most from (H3.out.below (below_drew1 (Below.refl _ _))).below (below_drew1 (Below.refl _ _)))
  have HB4 := Aside0.mk (show Below w.heap.size w w3.drew.drew from below_drew1 (below_drew1 HB3.out))
  have HX4 := Aside0.mk (show w3.drew.drew.heap[w.heap.size]? = _ from HX3.out)
  generalize w3.drew.drew = w4 at H4 HB4 HX4 ⊢
  clear H3 HB3 HX3 H2 HB2 HX2 b5 b6
  have x0 := blk_cell HX4.out 0
  have x1 := blk_cell HX4.out 1
  have x2 := blk_cell HX4.out 2
  go_wp2_with fail
  (with_reducible refine (sk_trail g base most S k _ H4.out).mono ?_)
  rintro e w5 ⟨rfl, hb⟩
  have HB5 := Aside0.mk (below_step HB4.out hb)
  have HX5 := Aside0.mk (blk_below HX4.out hb)
  have HA := Aside0.mk (show ArrAt (w5.alloc (.cells #[.int .i64 0, .int .i64 0, .int .i64 0, .int .i64 0, .int .i64 0, .int .i64 0, .int .i64 0, .int .i64 0, .int .i64 0, .int .i64 0, .int .i64 0, .int .i64 0] 85)) w5.heap.size 85 (List.replicate 12 0) from ArrAt.fresh w5 85 (List.replicate 12 0))
  have HBA := Aside0.mk (below_alloc HB5.out (.cells #[.int .i64 0, .int .i64 0, .int .i64 0, .int .i64 0, .int .i64 0, .int .i64 0, .int .i64 0, .int .i64 0, .int .i64 0, .int .i64 0, .int .i64 0, .int .i64 0] 85))
  have hlen := trL_len S k
  have hlen0 : (List.replicate 12 0).length = 12 := rfl
  have HXA := Aside0.mk (blk_alloc HX5.out (.cells #[.int .i64 0, .int .i64 0, .int .i64 0, .int .i64 0, .int .i64 0, .int .i64 0, .int .i64 0, .int .i64 0, .int .i64 0, .int .i64 0, .int .i64 0, .int .i64 0] 85))
  have htw : w.heap.size + 1 ≤ w5.heap.size := blk_lt HX5.out
  obtain ⟨p0, hp0⟩ : ∃ p0, trt0 S k 0 = p0 := ⟨_, rfl⟩
  have hpb : p0 ≤ 1048576 := by have := trt0_lt HF.out.1 k 0; have := HN1.out; omega
  have HP0 := Aside0.mk hp0
  have HQ0 := Aside0.mk (fun (W : World) (hb : Below w.heap.size w W) => by
    have := (hb.block g hgw).trans HI1.out
    rw [HN1.out] at this
    exact ((blk_cell this 0).trans rfl : W.cell? ⟨g, 0, none⟩ = some (.slice (some ⟨bb, 0, none⟩) N cc)))
  clear hb x0 x1 x2 H4 HB4 HX4 hp0
  go_wp2_with (first
    | ((with_reducible refine gate_ (.store 85 (.tmp 10) (.tmp 58)) rfl ?_); refine wpList_store_arr rfl rfl _ _ _ rfl _ rfl HA.out _ rfl hi12 hlen hlen0 ?_; generalize hW6 : World.setCells _ _ _ _ = w6; (have HA6 := Aside0.mk (HA.out.setc _ (hlen.trans hlen0.symm))); (have HB6 := Aside0.mk (belowSetCells w5.heap.size (below_size HB5.out) ((trL S k).map ei) 0 _ HBA.out)); (have HX6 := Aside0.mk (((belowSetCells (B := w.heap.size + 1) (a := w5.alloc (.cells #[.int .i64 0, .int .i64 0, .int .i64 0, .int .i64 0, .int .i64 0, .int .i64 0, .int .i64 0, .int .i64 0, .int .i64 0, .int .i64 0, .int .i64 0, .int .i64 0] 85)) w5.heap.size htw ((trL S k).map ei) 0 _ (Below.refl _ _)).block w.heap.size (Nat.lt_succ_self _)).trans HXA.out)); rw [hW6] at HA6 HB6 HX6; (have q0 := HQ0.out w6 HB6.out); (have x0 := blk_cell HX6.out 0); (have x1 := blk_cell HX6.out 1); (have x2 := blk_cell HX6.out 2); (have a0 := HA6.out.cell 0 (by rw [trL_len]; decide)); rw [trL_get S k 0 (by decide), show tr S.ht 0 (S.below k) = p0 from HP0.out] at a0 ; clear HA HBA HXA hW6 HB5 HX5; generalize w5.heap.size = tb at HA6 htw a0 ⊢)
    )
  have HX7 := Aside0.mk (BlkAt.fresh w6 101 (encN ⟨k, v, h0, List.replicate 12 0, p0⟩))
  have HB7 := Aside0.mk (below_alloc HB6.out (.cells (encN (⟨k, v, h0, List.replicate 12 0, p0⟩ : ND ByteArray)).toArray 101))
  have HA7 := Aside0.mk (HA6.out.alloc (.cells (encN (⟨k, v, h0, List.replicate 12 0, p0⟩ : ND ByteArray)).toArray 101))
  have htx := HA6.out.lt
  have hxw := below_size HB6.out
  rw [show (Obj.cells (encN (⟨k, v, h0, List.replicate 12 0, p0⟩ : ND ByteArray)).toArray 101) = Obj.cells #[.string k.1, .int .u64 k.2.1, .int .i64 k.2.2, encV_ v, .int .i64 (h0 : Int), .int .i32 0, .int .i32 0, .int .i32 0, .int .i32 0, .int .i32 0, .int .i32 0, .int .i32 0, .int .i32 0, .int .i32 0, .int .i32 0, .int .i32 0, .int .i32 0, .int .i32 (p0 : Int)] 101 from rfl] at HX7 HB7 HA7
  simp only [encV_] at HX7 HB7 HA7
  generalize w6.alloc _ = w7 at HX7 HB7 HA7 ⊢
  clear HA6 HB6 HX6 x0 x1 x2 q0 a0
  generalize w6.heap.size = xb at HX7 htx hxw ⊢
  have HI := Aside0.mk (show InsAt w w7 g base most bb cc tb xb S nl k v h0 0 from ⟨(HB7.out.block g hgw).trans HI1.out, Kd.R_below HI2.out HB7.out, HA7.out, by rw [HP0.out]; exact HX7.out, Kept.of_below HB7.out _, ⟨HB7.out.os, HB7.out.tape, HB7.out.output, HB7.out.size, fun q hq => HB7.out.block q (by omega)⟩⟩)
  clear HX7 HB7 HA7
  go_loopg [13, 72] (1 + h0) (fun kq v13 v72 wr => ∃ m : Nat, v72 = .int .i64 (m : Int) ∧ m ≤ h0 ∧ h0 - m < kq ∧ Aside0 (InsAt w wr g base most bb cc tb xb S nl k v h0 m))
  case atStart => exact ⟨0, rfl, Nat.zero_le _, by omega, HI⟩
  case round =>
    clear HI
    obtain ⟨m, rfl, hmh, hkq, HI⟩ := hrel
    cases gk with
    | zero => omega
    | succ gk1 =>
    by_cases hm : m < h0
    · have c1 : decide ((m : Int) < (h0 : Int)) = true := decide_eq_true (by omega)
      have c2 : decide (m < h0) = true := decide_eq_true hm
      have hm12 : m < 12 := by omega
      obtain ⟨r0, r1, r2, ⟨u, r3⟩, r4⟩ := HI.out.reads HF.out.1 hm12
      have hzN := trt0_lt HF.out.1 k m
      obtain ⟨_, _, _, _, r5⟩ := node_cells HI.out.row (trt0 S k m) hzN
      have r5 := r5 (5 + m)
      rw [← Nat.add_assoc] at r5
      obtain ⟨y, hy⟩ : ∃ y, nxtOf (iterL nl (trt0 S k) (S.nodes.length + 1) m) m (trt0 S k m) = y := ⟨_, rfl⟩
      rw [hy] at r2
      have HCP := Aside0.mk (fun (W1 : World) (hW : wr.setCell ⟨xb, 5 + m, none⟩ (.int .i32 (y : Int)) = W1) => HI.out.copy (W1 := W1) hm12 hxw hgw hbw (by omega) (by omega) (by rw [hy]; exact hW))
      obtain ⟨z, hz⟩ : ∃ z, trt0 S k m = z := ⟨_, rfl⟩
      rw [hz] at r1 r2 r5 hzN
      rw [HN1.out] at r0 hzN
      have HZM := Aside0.mk hz
      have hbx : bb ≠ xb := by omega
      have hgx : g ≠ xb := by omega
      have htx' : tb ≠ xb := by omega
      have hm12i : (m : Int) < 12 := by omega
      have hzNi : (z : Int) < (N : Int) := by omega
      clear hy hz
      go_wp2_with fail
      refine start_ (n := 16) (S := fun w' => w'.cell? ⟨g, 0, none⟩ = some (.slice (some ⟨bb, 0, none⟩) N cc) ∧ w'.cell? ⟨tb, m, none⟩ = some (.int .i64 (z : Int)) ∧ w'.cell? ⟨bb, z * 18 + 5 + m, none⟩ = some (.int .i32 (y : Int))) (ds := []) #[false, false, false, false, false, false, false, false, false, false, false, false, false, false, false, false] (by kernel_rfl) rfl rfl ⟨r0, r1, r2⟩ (fun hHeld => ?_)
      refine pure_ (i := 0) (N := some 75) (v := ?_) (a' := ?_) #[true, false, false, false, false, false, false, false, false, false, false, false, false, false, false, false] rfl rfl (by kernel_rfl) (fun _ _ _ h => h) (Or.inl ⟨by rfl, ?_⟩) ?_ ?_
      rotate_left
      · intro w'
        go_simp
        with_reducible rfl
      rotate_left
      · simp only [Act.put, List.setIfInBounds_toArray, List.set_cons_zero, List.set_cons_succ, i64_w, i32_w]
        rfl
      refine pure_ (i := 1) (N := some 76) (v := ?_) (a' := ?_) #[true, true, false, false, false, false, false, false, false, false, false, false, false, false, false, false] rfl rfl (by kernel_rfl) (fun _ _ _ h => h) (Or.inl ⟨by rfl, ?_⟩) ?_ ?_
      rotate_left
      · intro w'
        go_simp
        with_reducible rfl
      rotate_left
      · simp only [Act.put, List.setIfInBounds_toArray, List.set_cons_zero, List.set_cons_succ, i64_w, i32_w]
        rfl
      refine pure_ (i := 2) (N := some 77) (v := ?_) (a' := ?_) #[true, true, true, false, false, false, false, false, false, false, false, false, false, false, false, false] rfl rfl (by kernel_rfl) (fun _ _ _ h => h) (Or.inl ⟨by rfl, ?_⟩) ?_ ?_
      rotate_left
      · intro w'
        go_simp
        with_reducible rfl
      rotate_left
      · simp only [Act.put, List.setIfInBounds_toArray, List.set_cons_zero, List.set_cons_succ, i64_w, i32_w]
        rfl
      refine pure_ (i := 3) (N := some 78) (v := ?_) (a' := ?_) #[true, true, true, true, false, false, false, false, false, false, false, false, false, false, false, false] rfl rfl (by kernel_rfl) (fun _ _ _ h => h) (Or.inl ⟨by rfl, ?_⟩) ?_ ?_
      rotate_left
      · intro w'
        go_simp
        with_reducible rfl
      rotate_left
      · simp only [Act.put, List.setIfInBounds_toArray, List.set_cons_zero, List.set_cons_succ, i64_w, i32_w]
        rfl
      refine pure_ (i := 5) (N := some 80) (v := ?_) (a' := ?_) #[true, true, true, true, false, true, false, false, false, false, false, false, false, false, false, false] rfl rfl (by kernel_rfl) (fun _ _ _ h => h) (Or.inl ⟨by rfl, ?_⟩) ?_ ?_
      rotate_left
      · intro w'
        go_simp
        with_reducible rfl
      rotate_left
      · simp only [Act.put, List.setIfInBounds_toArray, List.set_cons_zero, List.set_cons_succ, i64_w, i32_w]
        rfl
      refine pure_ (i := 6) (N := some 81) (v := ?_) (a' := ?_) #[true, true, true, true, false, true, true, false, false, false, false, false, false, false, false, false] rfl rfl (by kernel_rfl) (fun _ _ _ h => h) (Or.inl ⟨by rfl, ?_⟩) ?_ ?_
      rotate_left
      · intro w'
        go_simp
        with_reducible rfl
      rotate_left
      · simp only [Act.put, List.setIfInBounds_toArray, List.set_cons_zero, List.set_cons_succ, i64_w, i32_w]
        rfl
      refine pure_ (i := 8) (N := some 83) (v := ?_) (a' := ?_) #[true, true, true, true, false, true, true, false, true, false, false, false, false, false, false, false] rfl rfl (by kernel_rfl) (fun _ _ _ h => h) (Or.inl ⟨by rfl, ?_⟩) ?_ ?_
      rotate_left
      · intro w'
        go_simp
        with_reducible rfl
      rotate_left
      · simp only [Act.put, List.setIfInBounds_toArray, List.set_cons_zero, List.set_cons_succ, i64_w, i32_w]
        rfl
      refine pure_ (i := 13) (N := some 88) (v := ?_) (a' := ?_) #[true, true, true, true, false, true, true, false, true, false, false, false, false, true, false, false] rfl rfl (by kernel_rfl) (fun _ _ _ h => h) (Or.inl ⟨by rfl, ?_⟩) ?_ ?_
      rotate_left
      · intro w'
        go_simp
        with_reducible rfl
      rotate_left
      · simp only [Act.put, List.setIfInBounds_toArray, List.set_cons_zero, List.set_cons_succ, i64_w, i32_w]
        rfl
      refine take_ (i := 4) (N := some 79) (v := ?_) (a' := ?_) #[true, true, true, true, true, true, true, false, true, false, false, false, false, true, false, false] rfl rfl (by kernel_rfl) (fun _ _ _ h => h) (Or.inl ⟨by rfl, ?_⟩) hHeld ?_ ?_
      rotate_left
      · rintro w' ⟨s0, s1, s2⟩
        go_simp
        with_reducible rfl
      rotate_left
      · simp only [Act.put, List.setIfInBounds_toArray, List.set_cons_zero, List.set_cons_succ, i64_w, i32_w]
        rfl
      refine take_ (i := 7) (N := some 82) (v := ?_) (a' := ?_) #[true, true, true, true, true, true, true, true, true, false, false, false, false, true, false, false] rfl rfl (by kernel_rfl) (fun _ _ _ h => h) (Or.inl ⟨by rfl, ?_⟩) hHeld ?_ ?_
      rotate_left
      · rintro w' ⟨s0, s1, s2⟩
        go_simp
        with_reducible rfl
      rotate_left
      · simp only [Act.put, List.setIfInBounds_toArray, List.set_cons_zero, List.set_cons_succ, i64_w, i32_w]
        rfl
      refine pure_ (i := 9) (N := some 84) (v := ?_) (a' := ?_) #[true, true, true, true, true, true, true, true, true, true, false, false, false, true, false, false] rfl rfl (by kernel_rfl) (fun _ _ _ h => h) (Or.inl ⟨by rfl, ?_⟩) ?_ ?_
      rotate_left
      · intro w'
        go_simp
        with_reducible rfl
      rotate_left
      · simp only [Act.put, List.setIfInBounds_toArray, List.set_cons_zero, List.set_cons_succ, i64_w, i32_w]
        rfl
      refine pure_ (i := 10) (N := some 85) (v := ?_) (a' := ?_) #[true, true, true, true, true, true, true, true, true, true, true, false, false, true, false, false] rfl rfl (by kernel_rfl) (fun _ _ _ h => h) (Or.inl ⟨by rfl, ?_⟩) ?_ ?_
      rotate_left
      · intro w'
        go_simp
        with_reducible rfl
      rotate_left
      · simp only [Act.put, List.setIfInBounds_toArray, List.set_cons_zero, List.set_cons_succ, i64_w, i32_w]
        rfl
      refine pure_ (i := 11) (N := some 86) (v := ?_) (a' := ?_) #[true, true, true, true, true, true, true, true, true, true, true, true, false, true, false, false] rfl rfl (by kernel_rfl) (fun _ _ _ h => h) (Or.inl ⟨by rfl, ?_⟩) ?_ ?_
      rotate_left
      · intro w'
        go_simp
        with_reducible rfl
      rotate_left
      · simp only [Act.put, List.setIfInBounds_toArray, List.set_cons_zero, List.set_cons_succ, i64_w, i32_w]
        rfl
      refine take_ (i := 12) (N := some 87) (v := ?_) (a' := ?_) #[true, true, true, true, true, true, true, true, true, true, true, true, true, true, false, false] rfl rfl (by kernel_rfl) (fun _ _ _ h => h) (Or.inl ⟨by rfl, ?_⟩) hHeld ?_ ?_
      rotate_left
      · rintro w' ⟨s0, s1, s2⟩
        go_simp
        with_reducible rfl
      rotate_left
      · simp only [Act.put, List.setIfInBounds_toArray, List.set_cons_zero, List.set_cons_succ, i64_w, i32_w]
        rfl
      refine pure_ (i := 14) (N := some 89) (v := ?_) (a' := ?_) #[true, true, true, true, true, true, true, true, true, true, true, true, true, true, true, false] rfl rfl (by kernel_rfl) (fun _ _ _ h => h) (Or.inl ⟨by rfl, ?_⟩) ?_ ?_
      rotate_left
      · intro w'
        go_simp
        with_reducible rfl
      rotate_left
      · simp only [Act.put, List.setIfInBounds_toArray, List.set_cons_zero, List.set_cons_succ, i64_w, i32_w]
        rfl
      refine one_ (i := 15) (N := none) #[true, true, true, true, true, true, true, true, true, true, true, true, true, true, true, true] rfl rfl (by kernel_rfl) (by decide) (fun K hK => ?_)
      refine skip_ (w1 := ?_) (by rfl) rfl ?_ ?_
      rotate_left
      · go_simp
        rfl
      generalize hW8 : wr.setCell _ _ = w8
      have HC8 := Aside0.mk (HCP.out w8 hW8)
      have s0 : w8.cell? ⟨g, 0, none⟩ = some (.slice (some ⟨bb, 0, none⟩) N cc) := (by rw [← hW8, cell_ne hgx]; exact r0)
      have s1 : w8.cell? ⟨tb, m, none⟩ = some (.int .i64 (z : Int)) := (by rw [← hW8, cell_ne htx']; exact r1)
      have s2 : w8.cell? ⟨bb, z * 18 + 5 + m, none⟩ = some (.int .i32 (y : Int)) := (by rw [← hW8, cell_ne hbx]; exact r2)
      clear hW8
      refine hK.out _ _ ⟨s0, s1, s2⟩ (fun hHeld => ?_)
      clear hK K
      refine done_ (by kernel_rfl) ?_
      obtain ⟨_, _, _, _, s5⟩ := node_cells HC8.out.2.1 (trt0 S k m) (by rw [HZM.out, HN1.out]; exact hzN)
      have s5 := s5 (5 + m)
      rw [← Nat.add_assoc, HZM.out] at s5
      have HLK := Aside0.mk (fun (W1 : World) (hW : w8.setCell ⟨bb, z * 18 + 5 + m, none⟩ (.int .i32 (N : Int)) = W1) => InsAt.link (W1 := W1) (base := base) (most := most) (c := cc) HF.out.1 hm12 hxw hgw hbw hgb (by omega) (HC8.out.1.trans HI.out.blk) HC8.out.2.1 HC8.out.2.2.1 HC8.out.2.2.2.1 HC8.out.2.2.2.2.1 HC8.out.2.2.2.2.2 hbb (by rw [HZM.out, ← Nat.add_assoc, HN1.out]; exact hW))
      clear r0 r1 r2 r3 r4 r5
      have htbb : tb ≠ bb := by omega
      go_wp2_with fail
      have hw32 := HW32.out
      refine start_ (n := 14) (S := fun w' => w'.cell? ⟨g, 0, none⟩ = some (.slice (some ⟨bb, 0, none⟩) N cc) ∧ w'.cell? ⟨tb, m, none⟩ = some (.int .i64 (z : Int))) (ds := []) #[false, false, false, false, false, false, false, false, false, false, false, false, false, false] (by kernel_rfl) rfl rfl ⟨s0, s1⟩ (fun hHeld => ?_)
      refine pure_ (i := 0) (N := some 90) (v := ?_) (a' := ?_) #[true, false, false, false, false, false, false, false, false, false, false, false, false, false] rfl rfl (by kernel_rfl) (fun _ _ _ h => h) (Or.inl ⟨by rfl, ?_⟩) ?_ ?_
      rotate_left
      · intro w'
        go_simp
        with_reducible rfl
      rotate_left
      · simp only [Act.put, List.setIfInBounds_toArray, List.set_cons_zero, List.set_cons_succ, i64_w, i32_w]
        rfl
      refine pure_ (i := 1) (N := some 91) (v := ?_) (a' := ?_) #[true, true, false, false, false, false, false, false, false, false, false, false, false, false] rfl rfl (by kernel_rfl) (fun _ _ _ h => h) (Or.inl ⟨by rfl, ?_⟩) ?_ ?_
      rotate_left
      · intro w'
        go_simp
        with_reducible rfl
      rotate_left
      · simp only [Act.put, List.setIfInBounds_toArray, List.set_cons_zero, List.set_cons_succ, i64_w, i32_w]
        rfl
      refine pure_ (i := 2) (N := some 92) (v := ?_) (a' := ?_) #[true, true, true, false, false, false, false, false, false, false, false, false, false, false] rfl rfl (by kernel_rfl) (fun _ _ _ h => h) (Or.inl ⟨by rfl, ?_⟩) ?_ ?_
      rotate_left
      · intro w'
        go_simp
        with_reducible rfl
      rotate_left
      · simp only [Act.put, List.setIfInBounds_toArray, List.set_cons_zero, List.set_cons_succ, i64_w, i32_w]
        rfl
      refine pure_ (i := 4) (N := some 94) (v := ?_) (a' := ?_) #[true, true, true, false, true, false, false, false, false, false, false, false, false, false] rfl rfl (by kernel_rfl) (fun _ _ _ h => h) (Or.inl ⟨by rfl, ?_⟩) ?_ ?_
      rotate_left
      · intro w'
        go_simp
        with_reducible rfl
      rotate_left
      · simp only [Act.put, List.setIfInBounds_toArray, List.set_cons_zero, List.set_cons_succ, i64_w, i32_w]
        rfl
      refine pure_ (i := 5) (N := some 95) (v := ?_) (a' := ?_) #[true, true, true, false, true, true, false, false, false, false, false, false, false, false] rfl rfl (by kernel_rfl) (fun _ _ _ h => h) (Or.inl ⟨by rfl, ?_⟩) ?_ ?_
      rotate_left
      · intro w'
        go_simp
        with_reducible rfl
      rotate_left
      · simp only [Act.put, List.setIfInBounds_toArray, List.set_cons_zero, List.set_cons_succ, i64_w, i32_w]
        rfl
      refine pure_ (i := 7) (N := some 97) (v := ?_) (a' := ?_) #[true, true, true, false, true, true, false, true, false, false, false, false, false, false] rfl rfl (by kernel_rfl) (fun _ _ _ h => h) (Or.inl ⟨by rfl, ?_⟩) ?_ ?_
      rotate_left
      · intro w'
        go_simp
        with_reducible rfl
      rotate_left
      · simp only [Act.put, List.setIfInBounds_toArray, List.set_cons_zero, List.set_cons_succ, i64_w, i32_w]
        rfl
      refine pure_ (i := 8) (N := some 98) (v := ?_) (a' := ?_) #[true, true, true, false, true, true, false, true, true, false, false, false, false, false] rfl rfl (by kernel_rfl) (fun _ _ _ h => h) (Or.inl ⟨by rfl, ?_⟩) ?_ ?_
      rotate_left
      · intro w'
        go_simp
        with_reducible rfl
      rotate_left
      · simp only [Act.put, List.setIfInBounds_toArray, List.set_cons_zero, List.set_cons_succ, i64_w, i32_w]
        rfl
      refine pure_ (i := 9) (N := some 99) (v := ?_) (a' := ?_) #[true, true, true, false, true, true, false, true, true, true, false, false, false, false] rfl rfl (by kernel_rfl) (fun _ _ _ h => h) (Or.inl ⟨by rfl, ?_⟩) ?_ ?_
      rotate_left
      · intro w'
        go_simp
        with_reducible rfl
      rotate_left
      · simp only [Act.put, List.setIfInBounds_toArray, List.set_cons_zero, List.set_cons_succ, i64_w, i32_w]
        rfl
      refine take_ (i := 3) (N := some 93) (v := ?_) (a' := ?_) #[true, true, true, true, true, true, false, true, true, true, false, false, false, false] rfl rfl (by kernel_rfl) (fun _ _ _ h => h) (Or.inl ⟨by rfl, ?_⟩) hHeld ?_ ?_
      rotate_left
      · rintro w' ⟨s0, s1⟩
        go_simp
        with_reducible rfl
      rotate_left
      · simp only [Act.put, List.setIfInBounds_toArray, List.set_cons_zero, List.set_cons_succ, i64_w, i32_w]
        rfl
      refine take_ (i := 6) (N := some 96) (v := ?_) (a' := ?_) #[true, true, true, true, true, true, true, true, true, true, false, false, false, false] rfl rfl (by kernel_rfl) (fun _ _ _ h => h) (Or.inl ⟨by rfl, ?_⟩) hHeld ?_ ?_
      rotate_left
      · rintro w' ⟨s0, s1⟩
        go_simp
        with_reducible rfl
      rotate_left
      · simp only [Act.put, List.setIfInBounds_toArray, List.set_cons_zero, List.set_cons_succ, i64_w, i32_w]
        rfl
      refine pure_ (i := 10) (N := some 100) (v := ?_) (a' := ?_) #[true, true, true, true, true, true, true, true, true, true, true, false, false, false] rfl rfl (by kernel_rfl) (fun _ _ _ h => h) (Or.inl ⟨by rfl, ?_⟩) ?_ ?_
      rotate_left
      · intro w'
        go_simp
        with_reducible rfl
      rotate_left
      · simp only [Act.put, List.setIfInBounds_toArray, List.set_cons_zero, List.set_cons_succ, i64_w, i32_w]
        rfl
      refine pure_ (i := 11) (N := some 101) (v := ?_) (a' := ?_) #[true, true, true, true, true, true, true, true, true, true, true, true, false, false] rfl rfl (by kernel_rfl) (fun _ _ _ h => h) (Or.inl ⟨by rfl, ?_⟩) ?_ ?_
      rotate_left
      · intro w'
        go_simp
        with_reducible rfl
      rotate_left
      · simp only [Act.put, List.setIfInBounds_toArray, List.set_cons_zero, List.set_cons_succ, i64_w, i32_w]
        rfl
      refine pure_ (i := 12) (N := some 102) (v := ?_) (a' := ?_) #[true, true, true, true, true, true, true, true, true, true, true, true, true, false] rfl rfl (by kernel_rfl) (fun _ _ _ h => h) (Or.inl ⟨by rfl, ?_⟩) ?_ ?_
      rotate_left
      · intro w'
        go_simp
        with_reducible rfl
      rotate_left
      · simp only [Act.put, List.setIfInBounds_toArray, List.set_cons_zero, List.set_cons_succ, i64_w, i32_w]
        rfl
      refine one_ (i := 13) (N := none) #[true, true, true, true, true, true, true, true, true, true, true, true, true, true] rfl rfl (by kernel_rfl) (by decide) (fun K hK => ?_)
      refine skip_ (w1 := ?_) (by rfl) rfl ?_ ?_
      rotate_left
      · go_simp
        rfl
      generalize hW9 : w8.setCell _ _ = w9
      have HI9 := Aside0.mk (HLK.out w9 hW9)
      have t0 : w9.cell? ⟨g, 0, none⟩ = some (.slice (some ⟨bb, 0, none⟩) N cc) := (by rw [← hW9, cell_ne hgb]; exact s0)
      have t1 : w9.cell? ⟨tb, m, none⟩ = some (.int .i64 (z : Int)) := (by rw [← hW9, cell_ne htbb]; exact s1)
      clear hW9
      refine hK.out _ _ ⟨t0, t1⟩ (fun hHeld => ?_)
      clear hK K
      refine done_ (by kernel_rfl) ?_
      clear s0 s1 s2 s5 t0 t1 hw32
      go_wp2
      go_roundg gk1
      case measure => omega
      case rel => exact ⟨m + 1, by rfl, by omega, by omega, ⟨HI9.out.drew.drew⟩⟩
    · have hme : m = h0 := by omega
      have c1 : decide ((m : Int) < (h0 : Int)) = false := decide_eq_false (by omega)
      have c2 : decide (m < h0) = false := decide_eq_false hm
      rw [hme] at HI
      have hsk := next0 HF.out.1 HIM.out k (S.nodes.length + 1) HH0.out.1 HH0.out.2
      obtain ⟨a0, a1, a2, a3, a4, a5, a6, a7, a8, a9, a10, a11, hX⟩ := list12 (iterX_len nl (trt0 S k) (S.nodes.length + 1) h0)
      rw [hX] at hsk
      have hsk' : a0 = S.seek k := hsk
      have hnode := HI.out.node
      rw [hX, HP0.out] at hnode
      have HXL := Aside0.mk (show BlkAt wr xb 101 [.string k.1, .int .u64 k.2.1, .int .i64 k.2.2, .string v, .int .i64 (h0 : Int), .int .i32 (a0 : Int), .int .i32 (a1 : Int), .int .i32 (a2 : Int), .int .i32 (a3 : Int), .int .i32 (a4 : Int), .int .i32 (a5 : Int), .int .i32 (a6 : Int), .int .i32 (a7 : Int), .int .i32 (a8 : Int), .int .i32 (a9 : Int), .int .i32 (a10 : Int), .int .i32 (a11 : Int), .int .i32 (p0 : Int)] from hnode)
      have r0 : wr.cell? ⟨g, 0, none⟩ = some (.slice (some ⟨bb, 0, none⟩) N cc) := by
        have := HI.out.blk
        rw [HN1.out] at this
        exact (blk_cell this 0).trans rfl
      have HRW := Aside0.mk HI.out.row
      rw [HN1.out] at HRW
      have HLN := Aside0.mk (show (iterL nl (trt0 S k) N h0).length = N by rw [iterL_len, HIM.out.len, HN1.out])
      have hbx : bb ≠ xb := by omega
      have hgx : g ≠ xb := by omega
      have hbs : base ≤ wr.heap.size := Nat.le_trans (by omega) HI.out.bel.size
      have HBL := Aside0.mk (show Below base w wr.drew from ⟨HI.out.bel.os, HI.out.bel.tape, HI.out.bel.output, HI.out.bel.size, HI.out.bel.block⟩)
      have hgl : g < wr.drew.heap.size := blk_lt HI.out.blk
      have hxl : xb < wr.drew.heap.size := HXL.out.lt
      have HA0 := Aside0.mk (show a0 = 0 from hsk'.trans HN.out)
      have HSA := Aside0.mk hsk'
      have HXX := Aside0.mk hX
      clear hm hme hkq hmh hX hsk hsk' hnode
      go_wp2_with fail
      refine start_ (n := 11) (S := fun w' => w'.cell? ⟨g, 0, none⟩ = some (.slice (some ⟨bb, 0, none⟩) N cc)) (ds := [10]) #[false, false, false, false, false, false, false, false, false, false, false] (by kernel_rfl) rfl rfl (r0) (fun hHeld => ?_)
      refine pure_ (i := 0) (N := some 104) (v := ?_) (a' := ?_) #[true, false, false, false, false, false, false, false, false, false, false] rfl rfl (by kernel_rfl) (fun _ _ _ h => h) (Or.inl ⟨by rfl, ?_⟩) ?_ ?_
      rotate_left
      · intro w'
        go_simp
        with_reducible rfl
      rotate_left
      · simp only [Act.put, List.setIfInBounds_toArray, List.set_cons_zero, List.set_cons_succ, i64_w, i32_w]
        rfl
      refine pure_ (i := 1) (N := some 105) (v := ?_) (a' := ?_) #[true, true, false, false, false, false, false, false, false, false, false] rfl rfl (by kernel_rfl) (fun _ _ _ h => h) (Or.inl ⟨by rfl, ?_⟩) ?_ ?_
      rotate_left
      · intro w'
        go_simp
        with_reducible rfl
      rotate_left
      · simp only [Act.put, List.setIfInBounds_toArray, List.set_cons_zero, List.set_cons_succ, i64_w, i32_w]
        rfl
      refine pure_ (i := 2) (N := some 106) (v := ?_) (a' := ?_) #[true, true, true, false, false, false, false, false, false, false, false] rfl rfl (by kernel_rfl) (fun _ _ _ h => h) (Or.inl ⟨by rfl, ?_⟩) ?_ ?_
      rotate_left
      · intro w'
        go_simp
        with_reducible rfl
      rotate_left
      · simp only [Act.put, List.setIfInBounds_toArray, List.set_cons_zero, List.set_cons_succ, i64_w, i32_w]
        rfl
      refine pure_ (i := 3) (N := some 107) (v := ?_) (a' := ?_) #[true, true, true, true, false, false, false, false, false, false, false] rfl rfl (by kernel_rfl) (fun _ _ _ h => h) (Or.inl ⟨by rfl, ?_⟩) ?_ ?_
      rotate_left
      · intro w'
        go_simp
        with_reducible rfl
      rotate_left
      · simp only [Act.put, List.setIfInBounds_toArray, List.set_cons_zero, List.set_cons_succ, i64_w, i32_w]
        rfl
      refine take_ (i := 4) (N := some 108) (v := ?_) (a' := ?_) #[true, true, true, true, true, false, false, false, false, false, false] rfl rfl (by kernel_rfl) (fun _ _ _ h => h) (Or.inl ⟨by rfl, ?_⟩) hHeld ?_ ?_
      rotate_left
      · intro w' s0
        go_simp
        with_reducible rfl
      rotate_left
      · simp only [Act.put, List.setIfInBounds_toArray, List.set_cons_zero, List.set_cons_succ, i64_w, i32_w]
        rfl
      refine one_ (i := 5) (N := some 109) #[true, true, true, true, true, true, false, false, false, false, false] rfl rfl (by kernel_rfl) (by decide) (fun K hK => ?_)
      refine value_ (w1 := wr.drew) (v := .agg #[.string k.1, .int .u64 k.2.1, .int .i64 k.2.2, .string v, .int .i64 (h0 : Int), .int .i32 (a0 : Int), .int .i32 (a1 : Int), .int .i32 (a2 : Int), .int .i32 (a3 : Int), .int .i32 (a4 : Int), .int .i32 (a5 : Int), .int .i32 (a6 : Int), .int .i32 (a7 : Int), .int .i32 (a8 : Int), .int .i32 (a9 : Int), .int .i32 (a10 : Int), .int .i32 (a11 : Int), .int .i32 (p0 : Int)]) (by rfl) rfl (exec_load_blk _ _ rfl xb rfl HXL.out.drew _ Try.underlying101 rfl hi18) ?_
      refine hK.out _ _ (r0) (fun hHeld => ?_)
      clear hK K
      refine norm_ (a' := ?_) ?_ ?_
      rotate_left
      · show Act.put _ (some 109) _ = _
        simp only [Act.put, List.setIfInBounds_toArray, List.set_cons_zero, List.set_cons_succ, i64_w, i32_w]
        rfl
      refine one_ (i := 6) (N := some 110) #[true, true, true, true, true, true, true, false, false, false, false] rfl rfl (by kernel_rfl) (by decide) (fun K hK => ?_)
      refine value_ (w1 := ?_) (v := ?_) (by rfl) rfl ?_ ?_
      rotate_left 2
      · go_simp
        constructor
        · rfl
        · rfl
      refine hK.out _ _ ((pw_cell_below (below_alloc (Below.refl _ _) _) r0)) (fun hHeld => ?_)
      clear hK K
      refine norm_ (a' := ?_) ?_ ?_
      rotate_left
      · show Act.put _ (some 110) _ = _
        simp only [Act.put, List.setIfInBounds_toArray, List.set_cons_zero, List.set_cons_succ, i64_w, i32_w]
        rfl
      refine one_ (i := 7) (N := some 111) #[true, true, true, true, true, true, true, true, false, false, false] rfl rfl (by kernel_rfl) (by decide) (fun K hK => ?_)
      rw [show (wr.alloc (.cells #[.string k.1, .int .u64 k.2.1, .int .i64 k.2.2, .string v, .int .i64 (h0 : Int), .int .i32 (a0 : Int), .int .i32 (a1 : Int), .int .i32 (a2 : Int), .int .i32 (a3 : Int), .int .i32 (a4 : Int), .int .i32 (a5 : Int), .int .i32 (a6 : Int), .int .i32 (a7 : Int), .int .i32 (a8 : Int), .int .i32 (a9 : Int), .int .i32 (a10 : Int), .int .i32 (a11 : Int), .int .i32 (p0 : Int)] 101)).drew = wr.drew.alloc (.cells #[.string k.1, .int .u64 k.2.1, .int .i64 k.2.2, .string v, .int .i64 (h0 : Int), .int .i32 (a0 : Int), .int .i32 (a1 : Int), .int .i32 (a2 : Int), .int .i32 (a3 : Int), .int .i32 (a4 : Int), .int .i32 (a5 : Int), .int .i32 (a6 : Int), .int .i32 (a7 : Int), .int .i32 (a8 : Int), .int .i32 (a9 : Int), .int .i32 (a10 : Int), .int .i32 (a11 : Int), .int .i32 (p0 : Int)] 101) from rfl]
      refine Kd.R_append_step ndK (w0 := w) (W := wr.drew) base (by rfl) (.tmp 108) (.tmp 110) 93 101 _ _ rfl Try.underlying93 info_nd rfl (by decide) (by decide) (.slice (some ⟨bb, 0, none⟩) N cc) (iterL nl (trt0 S k) N h0) ⟨k, v, h0, [a0, a1, a2, a3, a4, a5, a6, a7, a8, a9, a10, a11], p0⟩ [.string k.1, .int .u64 k.2.1, .int .i64 k.2.2, .string v, .int .i64 (h0 : Int), .int .i32 (a0 : Int), .int .i32 (a1 : Int), .int .i32 (a2 : Int), .int .i32 (a3 : Int), .int .i32 (a4 : Int), .int .i32 (a5 : Int), .int .i32 (a6 : Int), .int .i32 (a7 : Int), .int .i32 (a8 : Int), .int .i32 (a9 : Int), .int .i32 (a10 : Int), .int .i32 (a11 : Int), .int .i32 (p0 : Int)] (fun _ => True) (fun q => q ≠ bb) rfl rfl ⟨rfl, rfl⟩ (fun q hq => ⟨trivial, by simpa [Value.ownBlock] using hq⟩) (fun _ _ => trivial) (Kd.R_drew HRW.out) HBL.out hbs (by rw [HLN.out]; omega) ?_
      intro v1 w1 ho hb hg hat
      obtain ⟨b2, c2', rfl, hb2, hb2l, _⟩ := Kd.R_form ho (by simp)
      have HR1 := Aside0.mk ho
      have HB1' := Aside0.mk hb
      have HG1 := Aside0.mk hg
      have t0 : w1.cell? ⟨g, 0, none⟩ = some (.slice (some ⟨bb, 0, none⟩) N cc) := (blk_cell ((hg.block g hgl (by simpa [Value.ownBlock] using hgb)).trans HI.out.blk) 0).trans (by rw [HN1.out]; rfl)
      have f0 : w1.frozen? ⟨g, 0, none⟩ = false := blk_frozen ((hg.block g hgl (by simpa [Value.ownBlock] using hgb)).trans HI.out.blk) 0
      have HAT := Aside0.mk hat
      clear ho hb hg hat
      refine hK.out _ _ (t0) (fun hHeld => ?_)
      clear hK K
      refine norm_ (a' := ?_) ?_ ?_
      rotate_left
      · show Act.put _ (some 111) _ = _
        simp only [Act.put, List.setIfInBounds_toArray, List.set_cons_zero, List.set_cons_succ, i64_w, i32_w]
        rfl
      refine pure_ (i := 8) (N := some 112) (v := ?_) (a' := ?_) #[true, true, true, true, true, true, true, true, true, false, false] rfl rfl (by kernel_rfl) (fun _ _ _ h => h) (Or.inl ⟨by rfl, ?_⟩) ?_ ?_
      rotate_left
      · intro w'
        go_simp
        with_reducible rfl
      rotate_left
      · simp only [Act.put, List.setIfInBounds_toArray, List.set_cons_zero, List.set_cons_succ, i64_w, i32_w]
        rfl
      refine pure_ (i := 9) (N := some 113) (v := ?_) (a' := ?_) #[true, true, true, true, true, true, true, true, true, true, false] rfl rfl (by kernel_rfl) (fun _ _ _ h => h) (Or.inl ⟨by rfl, ?_⟩) ?_ ?_
      rotate_left
      · intro w'
        go_simp
        with_reducible rfl
      rotate_left
      · simp only [Act.put, List.setIfInBounds_toArray, List.set_cons_zero, List.set_cons_succ, i64_w, i32_w]
        rfl
      refine last_ (i := 10) (N := none) #[true, true, true, true, true, true, true, true, true, true, true] rfl rfl (by kernel_rfl) (by decide) (fun K hK => ?_)
      refine skip_ (w1 := ?_) (by rfl) rfl ?_ ?_
      rotate_left
      · go_simp
        rfl
      generalize hW2 : w1.setCell _ _ = w2
      have HW2 := Aside0.mk hW2
      clear hW2
      refine hK.out _ _ ?_
      clear hK K
      refine done_ (by kernel_rfl) ?_
      have HL2 := Aside0.mk (show (iterL nl (trt0 S k) N h0 ++ [(⟨k, v, h0, [a0, a1, a2, a3, a4, a5, a6, a7, a8, a9, a10, a11], p0⟩ : ND ByteArray)]).length = N + 1 by rw [List.length_append, HLN.out]; rfl)
      have hgblk1 := (HG1.out.block g hgl (by simpa [Value.ownBlock] using hgb)).trans HI.out.blk
      have hxblk1 := (HG1.out.block xb hxl (by simpa [Value.ownBlock] using Ne.symm hbx)).trans HXL.out.heap
      have hw2 := HW2.out
      have hr1 := HR1.out
      rw [HLN.out] at hw2
      rw [HL2.out] at hr1
      have HBK2 := Aside0.mk (show w2.heap[g]? = some (.cells #[.slice (some ⟨b2, 0, none⟩) (N + 1) c2', .int .i64 (most : Int), .int .i64 (S.height : Int), .int .i64 ((lastOf S.order : Nat) : Int)] 95 (0, 0)) by rw [← hw2]; exact blk_set hgblk1 0 _)
      have hb2g : b2 ≠ g := by
        have := Kd.R_ne hr1 hgblk1 (by decide)
        simpa [Value.ownBlock, eq_comm] using this
      have HR2 := Aside0.mk (show Kd.R ndK 101 w2 base (fun _ => True) (.slice (some ⟨b2, 0, none⟩) (N + 1) c2') (iterL nl (trt0 S k) N h0 ++ [⟨k, v, h0, [a0, a1, a2, a3, a4, a5, a6, a7, a8, a9, a10, a11], p0⟩]) by
        rw [← hw2]
        refine ndR_move hr1 fun q hq => Below.heap_setCell _ _ _ _ ?_
        have : b2 = q := by simpa [Value.ownBlock] using hq
        show q ≠ g
        omega)
      have HBL2 := Aside0.mk (show Below base w w2 by rw [← hw2]; exact HB1'.out.setCell ibg _)
      have HK2 := Aside0.mk (show Kept w w2 (fun i => i = g ∨ i = bb) by
        rw [← hw2]
        exact (Kept.of_grown HG1.out HI.out.kept.drew (fun q hq => Or.inl (Or.inr (by simpa [Value.ownBlock, eq_comm] using hq)))).setCell (Or.inl (Or.inl rfl)) _)
      have d5 : w2.cell? ⟨xb, 5, none⟩ = some (.int .i32 (a0 : Int)) := by
        rw [← hw2, cell_ne (Ne.symm hgx)]
        exact (blk_cell hxblk1 5).trans rfl
      have d2 : w2.cell? ⟨g, 2, none⟩ = some (.int .i64 (S.height : Int)) := (blk_cell HBK2.out 2).trans rfl
      have d3 : w2.cell? ⟨g, 3, none⟩ = some (.int .i64 ((lastOf S.order : Nat) : Int)) := (blk_cell HBK2.out 3).trans rfl
      have e2 := blk_frozen HBK2.out 2
      have e3 := blk_frozen HBK2.out 3
      obtain ⟨H, hH⟩ : ∃ H, S.height = H := ⟨_, rfl⟩
      rw [hH] at d2
      have HHH := Aside0.mk hH
      obtain ⟨la, hla⟩ : ∃ la, lastOf S.order = la := ⟨_, rfl⟩
      rw [hla] at d3
      clear hgblk1 hxblk1 hw2 hr1 hH hla t0 f0 r0
      have a0z := HA0.out
      subst a0z
      have HPUT := Aside0.mk (putN_eq0 HF.out.1 HIM.out k v HH0.out.1 HH0.out.2 HN.out)
      rw [HXX.out, HP0.out, HN1.out] at HPUT
      have HLA := Aside0.mk (last_put0 HF.out.1 v h0 HN.out)
      rw [HN1.out] at HLA
      clear HRW HXL HI HR1 HG1 HW2 HBL
      go_wp2
      all_goals
        rename_i hcmp
        go_ret
        refine ⟨rfl, ?_, (HBL2.out.setCell ibg _).setCell ibg _, ((HK2.out.setCell (Or.inl (Or.inl rfl)) _).setCell (Or.inl (Or.inl rfl)) _).mono (fun q hq => hq.elim Or.inl (fun e => Or.inr ⟨by rw [e]; exact hbb, by rw [e]; exact HBT.out⟩))⟩
        refine ins_done (b2 := b2) (c2 := c2') HF.out.1 HIM.out HFI.out HH0.out.1 HH0.out.2 HPUT.out ibg HMO.out ?_ ?_ HLA.out.symm (hi := max H h0) (by rw [HHH.out])
        · rw [HN1.out]
          have := blk_set (blk_set HBK2.out 3 (.int .i64 (N : Int))) 2 (.int .i64 ((max H h0 : Nat) : Int))
          first
            | (rw [show max H h0 = H by omega] at this ⊢; exact this)
            | (rw [show max H h0 = h0 by omega] at this ⊢; exact this)
        · rw [HN1.out]
          refine ndR_move HR2.out fun q hq => ?_
          have : b2 = q := by simpa [Value.ownBlock] using hq
          exact (Below.heap_setCell _ _ _ _ (by show q ≠ g; omega)).trans (Below.heap_setCell _ _ _ _ (by show q ≠ g; omega))
end St

end Go.Proofs.Ytehfcafmdnfamaa.G

/- Contracts typed by hand: a skiplist in memory: Insert, where it is done ahead of a node (values: texts) -/
namespace Go.Proofs.Ytehfcafmdnfamaa.G
open Go.RowKit Go.Proofs.YtehfcafmdnfamaaW.PrintWords Go.Proofs.YtehfcafmdnfamaaW.PrintLast Go.Proofs.YtehfcafmdnfamaaW.PrintMore
attribute [local go_sem] max2_int min2_int max_two min_two max_three min_three max_four min_four
set_option linter.unusedVariables false
set_option linter.unusedSimpArgs false

/-! a skiplist in memory: Insert, where it is done ahead of a node (values: texts) -/
namespace St
attribute [local go_sem high] eqAk
attribute [local go_sem] max2_int max_two encV_
set_option maxHeartbeats 32000000 in
set_option maxRecDepth 100000 in
theorem sk_ins0n (g base most : Nat) (S : SL ByteArray) (k : IK) (v : ByteArray) (h0 : Nat) (w : World) (h : SkAt w g base S most) (hv : ikey_Valid.f k.1 k.2.1 k.2.2 = some true) (hlo : 1 ≤ (h0 : Int)) (hhi : (h0 : Int) ≤ 12) (n : Nat) (hn : S.seek k = n) (hn0 : n ≠ 0) (hk : S.key n ≠ k) (hfu : S.nodes.length < most) :
    Calls Try.prog 36 #[.pointer (some ⟨g, 0, none⟩), .agg #[.string k.1, .int .u64 k.2.1, .int .i64 k.2.2], encV_ v, .int .i64 (h0 : Int)] w fun e w' => e = .returned (.int .i64 0) ∧ SkAt w' g base (S.put k v h0) most ∧ Below base w w' ∧ Kept w w' (fun i => i = g ∨ (base ≤ i ∧ ∃ cs, w.heap[i]? = some (.cells cs 101 (0, 0)))) := by
  obtain ⟨W1, hW1⟩ : ∃ W1, w.alloc (.cells #[.string k.1, .int .u64 k.2.1, .int .i64 k.2.2] 37) = W1 := ⟨_, rfl⟩
  have HB1 := Aside0.mk (show Below w.heap.size w W1 by rw [← hW1]; exact below_alloc (Below.refl _ _) _)
  have HX1 := Aside0.mk (show W1.heap[w.heap.size]? = some (.cells #[.string k.1, .int .u64 k.2.1, .int .i64 k.2.2] 37 (0, 0)) by rw [← hW1]; exact blk_new w _)
  have H1 := Aside0.mk (h.below HB1.out)
  have HE1 := Aside0.mk hW1
  have HF := Aside0.mk h.fine
  clear hW1
  have x0 := blk_cell HX1.out 0
  have x1 := blk_cell HX1.out 1
  have x2 := blk_cell HX1.out 2
  have HV := Aside0.mk hv
  have hkp := h.fine
  clear hv
  have hkw := h
  obtain ⟨bb, cc, nl, i1, i2, iM, iS, ibg, inm, im⟩ := hkw
  have hlen := iM.len
  rw [hlen] at i1 i2
  have hgw := h.lt
  have hgb : g ≠ bb := by
    have := Kd.R_ne i2 i1 (by decide)
    simpa [Value.ownBlock] using this
  have hbw : bb < w.heap.size := Kd.R_lt i2 bb rfl
  have hbb : base ≤ bb := Kd.R_base i2 bb rfl
  have HBT := Aside0.mk (show ∃ cs, w.heap[bb]? = some (.cells cs 101 (0, 0)) by obtain ⟨inner, ho⟩ := Kd.R_own i2; exact own_typed ho bb rfl)
  have HI1 := Aside0.mk i1
  have HI2 := Aside0.mk i2
  have HIM := Aside0.mk iM
  obtain ⟨N, hN1⟩ : ∃ N, S.nodes.length + 1 = N := ⟨_, rfl⟩
  have HN1 := Aside0.mk hN1
  have hNb : N ≤ 1048577 := by have := h.fine.2.1; omega
  have hN0 : 0 < N := by omega
  have HW32 := Aside0.mk (show wrap32 (N : Int) = (N : Int) by unfold wrap32; omega)
  have HMO := Aside0.mk (show S.nodes.length < most ∧ most ≤ 1048576 from ⟨hfu, im⟩)
  have HH0 := Aside0.mk (show 1 ≤ h0 ∧ h0 ≤ 12 from ⟨by omega, by omega⟩)
  have h012 : h0 ≤ 12 := by omega
  clear i1 i2 iM hlen inm im iS hN1
  have a1 : decide ((h0 : Int) < 1) = false := decide_eq_false (by omega)
  have a2 : decide ((h0 : Int) > 12) = false := decide_eq_false (by omega)
  have HFU := Aside0.mk hfu
  have HFI := Aside0.mk (show S.find k = 0 by unfold SL.find; rw [hn, if_neg (by rintro ⟨_, h⟩; exact hk h)])
  have HZ := Aside0.mk (show 1 ≤ n ∧ n ≤ S.nodes.length from ⟨by omega, by rw [← hn]; exact seek_lt hkp.1 k⟩)
  have HN := Aside0.mk hn
  have HKK := Aside0.mk (show decide (S.key n = k) = false from decide_eq_false hk)
  clear hn0 hk hn hfu
  clear h hkp
  go_enter Try.func36, Try.ntmps36
  go_wp2_with fail
  rw [HE1.out]
  (with_reducible refine (sk_none g base most S _ H1.out).mono ?_)
  rintro e w1 ⟨rfl, rfl⟩
  go_wp2_with fail
  (with_reducible refine (ikey_Valid.calls _ _ _ _ _ HV.out).mono ?_)
  rintro e w2 ⟨rfl, hb⟩
  have HB2 := Aside0.mk (below_step HB1.out hb)
  have H2 := Aside0.mk (H1.out.below hb)
  have HX2 := Aside0.mk (blk_below HX1.out hb)
  clear hb x0 x1 x2
  have x0 := blk_cell HX2.out 0
  have x1 := blk_cell HX2.out 1
  have x2 := blk_cell HX2.out 2
  go_wp2_with fail
  (with_reducible refine (sk_seek g base most S k _ H2.out).mono ?_)
  rintro e w3 ⟨rfl, hb⟩
  have HB3 := Aside0.mk (below_step HB2.out hb)
  have H3 := Aside0.mk (H2.out.below hb)
  have HX3 := Aside0.mk (blk_below HX2.out hb)
  clear hb x0 x1 x2
  rw [HN.out]
  obtain ⟨b, c, ns, h1, h2, _, h4, hM⟩ := H3.out.reads
  obtain ⟨k0, k1, k2, y, hy, hyk, k3⟩ := h4 n HZ.out.1 (by have := HZ.out.2; omega)
  have q0 : w3.cell? ⟨g, 0, none⟩ = some (.slice (some ⟨b, 0, none⟩) (S.nodes.length + 1) c) := (blk_cell h1 0).trans rfl
  have hbq := ikey_beq (S.key n) k
  obtain ⟨⟨ks, kn, kd⟩, hkk⟩ : ∃ kk, S.key n = kk := ⟨_, rfl⟩
  rw [hkk] at k0 k1 k2 hbq
  dsimp only at k0 k1 k2 hbq
  have x0 := blk_cell HX3.out 0
  have x1 := blk_cell HX3.out 1
  have x2 := blk_cell HX3.out 2
  obtain ⟨m, hm⟩ : ∃ m, S.nodes.length + 1 = m := ⟨_, rfl⟩
  rw [hm] at q0
  have hnm : n < m := by have := HZ.out.2; omega
  have hmb : m ≤ 1048577 := by have := HF.out.2.1; omega
  have b3 : ((n : Int) == 0) = false := by have := HZ.out.1; simp; omega
  have b4 : ((n : Int) != 0) = true := by have := HZ.out.1; simp; omega
  have HBQ := Aside0.mk (hbq.trans (show decide ((ks, kn, kd) = k) = false by rw [← hkk]; exact HKK.out))
  clear h1 h2 h4 hM hy hyk hbq hkk hm k3
  go_wp2_with fail
  refine start_ (n := 14) (S := fun w' => w'.cell? ⟨g, 0, none⟩ = some (.slice (some ⟨b, 0, none⟩) m c) ∧ w'.cell? ⟨b, n * 18, none⟩ = some (.string ks) ∧ w'.cell? ⟨b, n * 18 + 1, none⟩ = some (.int .u64 kn) ∧ w'.cell? ⟨b, n * 18 + 2, none⟩ = some (.int .i64 kd) ∧ w'.cell? ⟨w.heap.size, 0, none⟩ = some (.string k.1) ∧ w'.cell? ⟨w.heap.size, 1, none⟩ = some (.int .u64 k.2.1) ∧ w'.cell? ⟨w.heap.size, 2, none⟩ = some (.int .i64 k.2.2)) (ds := []) #[false, false, false, false, false, false, false, false, false, false, false, false, false, false] (by kernel_rfl) rfl rfl ⟨q0, k0, k1, k2, x0, x1, x2⟩ (fun hHeld => ?_)
  refine pure_ (i := 0) (N := some 32) (v := ?_) (a' := ?_) #[true, false, false, false, false, false, false, false, false, false, false, false, false, false] rfl rfl (by kernel_rfl) (fun _ _ _ h => h) (Or.inl ⟨by rfl, ?_⟩) ?_ ?_
  rotate_left
  · intro w'
    go_simp
    with_reducible rfl
  rotate_left
  · simp only [Act.put, List.setIfInBounds_toArray, List.set_cons_zero, List.set_cons_succ, i64_w, i32_w]
    rfl
  refine pure_ (i := 1) (N := some 33) (v := ?_) (a' := ?_) #[true, true, false, false, false, false, false, false, false, false, false, false, false, false] rfl rfl (by kernel_rfl) (fun _ _ _ h => h) (Or.inl ⟨by rfl, ?_⟩) ?_ ?_
  rotate_left
  · intro w'
    go_simp
    with_reducible rfl
  rotate_left
  · simp only [Act.put, List.setIfInBounds_toArray, List.set_cons_zero, List.set_cons_succ, i64_w, i32_w]
    rfl
  refine pure_ (i := 2) (N := some 34) (v := ?_) (a' := ?_) #[true, true, true, false, false, false, false, false, false, false, false, false, false, false] rfl rfl (by kernel_rfl) (fun _ _ _ h => h) (Or.inl ⟨by rfl, ?_⟩) ?_ ?_
  rotate_left
  · intro w'
    go_simp
    with_reducible rfl
  rotate_left
  · simp only [Act.put, List.setIfInBounds_toArray, List.set_cons_zero, List.set_cons_succ, i64_w, i32_w]
    rfl
  refine pure_ (i := 3) (N := some 35) (v := ?_) (a' := ?_) #[true, true, true, true, false, false, false, false, false, false, false, false, false, false] rfl rfl (by kernel_rfl) (fun _ _ _ h => h) (Or.inl ⟨by rfl, ?_⟩) ?_ ?_
  rotate_left
  · intro w'
    go_simp
    with_reducible rfl
  rotate_left
  · simp only [Act.put, List.setIfInBounds_toArray, List.set_cons_zero, List.set_cons_succ, i64_w, i32_w]
    rfl
  refine pure_ (i := 4) (N := some 36) (v := ?_) (a' := ?_) #[true, true, true, true, true, false, false, false, false, false, false, false, false, false] rfl rfl (by kernel_rfl) (fun _ _ _ h => h) (Or.inl ⟨by rfl, ?_⟩) ?_ ?_
  rotate_left
  · intro w'
    go_simp
    with_reducible rfl
  rotate_left
  · simp only [Act.put, List.setIfInBounds_toArray, List.set_cons_zero, List.set_cons_succ, i64_w, i32_w]
    rfl
  refine pure_ (i := 5) (N := some 37) (v := ?_) (a' := ?_) #[true, true, true, true, true, true, false, false, false, false, false, false, false, false] rfl rfl (by kernel_rfl) (fun _ _ _ h => h) (Or.inl ⟨by rfl, ?_⟩) ?_ ?_
  rotate_left
  · intro w'
    go_simp
    with_reducible rfl
  rotate_left
  · simp only [Act.put, List.setIfInBounds_toArray, List.set_cons_zero, List.set_cons_succ, i64_w, i32_w]
    rfl
  refine pure_ (i := 7) (N := some 39) (v := ?_) (a' := ?_) #[true, true, true, true, true, true, false, true, false, false, false, false, false, false] rfl rfl (by kernel_rfl) (fun _ _ _ h => h) (Or.inl ⟨by rfl, ?_⟩) ?_ ?_
  rotate_left
  · intro w'
    go_simp
    with_reducible rfl
  rotate_left
  · simp only [Act.put, List.setIfInBounds_toArray, List.set_cons_zero, List.set_cons_succ, i64_w, i32_w]
    rfl
  refine take_ (i := 6) (N := some 38) (v := ?_) (a' := ?_) #[true, true, true, true, true, true, true, true, false, false, false, false, false, false] rfl rfl (by kernel_rfl) (fun _ _ _ h => h) (Or.inl ⟨by rfl, ?_⟩) hHeld ?_ ?_
  rotate_left
  · rintro w' ⟨s0, s1, s2, s3, s4, s5, s6⟩
    go_simp
    with_reducible rfl
  rotate_left
  · simp only [Act.put, List.setIfInBounds_toArray, List.set_cons_zero, List.set_cons_succ, i64_w, i32_w]
    rfl
  refine pure_ (i := 8) (N := some 40) (v := ?_) (a' := ?_) #[true, true, true, true, true, true, true, true, true, false, false, false, false, false] rfl rfl (by kernel_rfl) (fun _ _ _ h => h) (Or.inl ⟨by rfl, ?_⟩) ?_ ?_
  rotate_left
  · intro w'
    go_simp
    with_reducible rfl
  rotate_left
  · simp only [Act.put, List.setIfInBounds_toArray, List.set_cons_zero, List.set_cons_succ, i64_w, i32_w]
    rfl
  refine pure_ (i := 9) (N := some 41) (v := ?_) (a' := ?_) #[true, true, true, true, true, true, true, true, true, true, false, false, false, false] rfl rfl (by kernel_rfl) (fun _ _ _ h => h) (Or.inl ⟨by rfl, ?_⟩) ?_ ?_
  rotate_left
  · intro w'
    go_simp
    with_reducible rfl
  rotate_left
  · simp only [Act.put, List.setIfInBounds_toArray, List.set_cons_zero, List.set_cons_succ, i64_w, i32_w]
    rfl
  refine take_ (i := 10) (N := some 42) (v := ?_) (a' := ?_) #[true, true, true, true, true, true, true, true, true, true, true, false, false, false] rfl rfl (by kernel_rfl) (fun _ _ _ h => h) (Or.inl ⟨by rfl, ?_⟩) hHeld ?_ ?_
  rotate_left
  · rintro w' ⟨s0, s1, s2, s3, s4, s5, s6⟩
    go_simp
    with_reducible rfl
  rotate_left
  · simp only [Act.put, List.setIfInBounds_toArray, List.set_cons_zero, List.set_cons_succ, i64_w, i32_w]
    rfl
  refine take_ (i := 11) (N := some 43) (v := ?_) (a' := ?_) #[true, true, true, true, true, true, true, true, true, true, true, true, false, false] rfl rfl (by kernel_rfl) (fun _ _ _ h => h) (Or.inl ⟨by rfl, ?_⟩) hHeld ?_ ?_
  rotate_left
  · rintro w' ⟨s0, s1, s2, s3, s4, s5, s6⟩
    go_simp
    with_reducible rfl
  rotate_left
  · simp only [Act.put, List.setIfInBounds_toArray, List.set_cons_zero, List.set_cons_succ, i64_w, i32_w]
    rfl
  refine pure_ (i := 12) (N := some 44) (v := ?_) (a' := ?_) #[true, true, true, true, true, true, true, true, true, true, true, true, true, false] rfl rfl (by kernel_rfl) (fun _ _ _ h => h) (Or.inl ⟨by rfl, ?_⟩) ?_ ?_
  rotate_left
  · intro w'
    go_simp
    with_reducible rfl
  rotate_left
  · simp only [Act.put, List.setIfInBounds_toArray, List.set_cons_zero, List.set_cons_succ, i64_w, i32_w]
    rfl
  refine pure_ (i := 13) (N := some 45) (v := ?_) (a' := ?_) #[true, true, true, true, true, true, true, true, true, true, true, true, true, true] rfl rfl (by kernel_rfl) (fun _ _ _ h => h) (Or.inl ⟨by rfl, ?_⟩) ?_ ?_
  rotate_left
  · intro w'
    go_simp
    with_reducible rfl
  rotate_left
  · simp only [Act.put, List.setIfInBounds_toArray, List.set_cons_zero, List.set_cons_succ, i64_w, i32_w]
    rfl
  refine done_ (by kernel_rfl) ?_
  simp only [HBQ.out]
  clear x0 x1 x2 k0 k1 k2 q0
  obtain ⟨b, c, ns, h1, _⟩ := (show SkAt w3.drew g base S most from H3.out.below (below_drew1 (Below.refl _ _))).reads
  have q0 : w3.drew.cell? ⟨g, 0, none⟩ = some (.slice (some ⟨b, 0, none⟩) (S.nodes.length + 1) c) := (blk_cell h1 0).trans rfl
  have q1 : w3.drew.cell? ⟨g, 1, none⟩ = some (.int .i64 (most : Int)) := (blk_cell h1 1).trans rfl
  obtain ⟨m, hm⟩ : ∃ m, S.nodes.length + 1 = m := ⟨_, rfl⟩
  rw [hm] at q0
  have b5 : decide ((m : Int) > (most : Int)) = false := decide_eq_false (by have := HFU.out; omega)
  have b6 : decide (most < m) = false := decide_eq_false (by have := HFU.out; omega)
  clear h1 hm
  go_wp2_with fail
  refine start_ (n := 10) (S := fun w' => w'.cell? ⟨g, 0, none⟩ = some (.slice (some ⟨b, 0, none⟩) m c) ∧ w'.cell? ⟨g, 1, none⟩ = some (.int .i64 (most : Int))) (ds := []) #[false, false, false, false, false, false, false, false, false, false] (by kernel_rfl) rfl rfl ⟨q0, q1⟩ (fun hHeld => ?_)
  refine pure_ (i := 0) (N := some 46) (v := ?_) (a' := ?_) #[true, false, false, false, false, false, false, false, false, false] rfl rfl (by kernel_rfl) (fun _ _ _ h => h) (Or.inl ⟨by rfl, ?_⟩) ?_ ?_
  rotate_left
  · intro w'
    go_simp
    with_reducible rfl
  rotate_left
  · simp only [Act.put, List.setIfInBounds_toArray, List.set_cons_zero, List.set_cons_succ, i64_w, i32_w]
    rfl
  refine pure_ (i := 1) (N := some 47) (v := ?_) (a' := ?_) #[true, true, false, false, false, false, false, false, false, false] rfl rfl (by kernel_rfl) (fun _ _ _ h => h) (Or.inl ⟨by rfl, ?_⟩) ?_ ?_
  rotate_left
  · intro w'
    go_simp
    with_reducible rfl
  rotate_left
  · simp only [Act.put, List.setIfInBounds_toArray, List.set_cons_zero, List.set_cons_succ, i64_w, i32_w]
    rfl
  refine pure_ (i := 2) (N := some 48) (v := ?_) (a' := ?_) #[true, true, true, false, false, false, false, false, false, false] rfl rfl (by kernel_rfl) (fun _ _ _ h => h) (Or.inl ⟨by rfl, ?_⟩) ?_ ?_
  rotate_left
  · intro w'
    go_simp
    with_reducible rfl
  rotate_left
  · simp only [Act.put, List.setIfInBounds_toArray, List.set_cons_zero, List.set_cons_succ, i64_w, i32_w]
    rfl
  refine pure_ (i := 5) (N := some 51) (v := ?_) (a' := ?_) #[true, true, true, false, false, true, false, false, false, false] rfl rfl (by kernel_rfl) (fun _ _ _ h => h) (Or.inl ⟨by rfl, ?_⟩) ?_ ?_
  rotate_left
  · intro w'
    go_simp
    with_reducible rfl
  rotate_left
  · simp only [Act.put, List.setIfInBounds_toArray, List.set_cons_zero, List.set_cons_succ, i64_w, i32_w]
    rfl
  refine pure_ (i := 6) (N := some 52) (v := ?_) (a' := ?_) #[true, true, true, false, false, true, true, false, false, false] rfl rfl (by kernel_rfl) (fun _ _ _ h => h) (Or.inl ⟨by rfl, ?_⟩) ?_ ?_
  rotate_left
  · intro w'
    go_simp
    with_reducible rfl
  rotate_left
  · simp only [Act.put, List.setIfInBounds_toArray, List.set_cons_zero, List.set_cons_succ, i64_w, i32_w]
    rfl
  refine pure_ (i := 7) (N := some 53) (v := ?_) (a' := ?_) #[true, true, true, false, false, true, true, true, false, false] rfl rfl (by kernel_rfl) (fun _ _ _ h => h) (Or.inl ⟨by rfl, ?_⟩) ?_ ?_
  rotate_left
  · intro w'
    go_simp
    with_reducible rfl
  rotate_left
  · simp only [Act.put, List.setIfInBounds_toArray, List.set_cons_zero, List.set_cons_succ, i64_w, i32_w]
    rfl
  refine take_ (i := 3) (N := some 49) (v := ?_) (a' := ?_) #[true, true, true, true, false, true, true, true, false, false] rfl rfl (by kernel_rfl) (fun _ _ _ h => h) (Or.inl ⟨by rfl, ?_⟩) hHeld ?_ ?_
  rotate_left
  · rintro w' ⟨s0, s1⟩
    go_simp
    with_reducible rfl
  rotate_left
  · simp only [Act.put, List.setIfInBounds_toArray, List.set_cons_zero, List.set_cons_succ, i64_w, i32_w]
    rfl
  refine pure_ (i := 4) (N := some 50) (v := ?_) (a' := ?_) #[true, true, true, true, true, true, true, true, false, false] rfl rfl (by kernel_rfl) (fun _ _ _ h => h) (Or.inl ⟨by rfl, ?_⟩) ?_ ?_
  rotate_left
  · intro w'
    go_simp
    with_reducible rfl
  rotate_left
  · simp only [Act.put, List.setIfInBounds_toArray, List.set_cons_zero, List.set_cons_succ, i64_w, i32_w]
    rfl
  refine take_ (i := 8) (N := some 54) (v := ?_) (a' := ?_) #[true, true, true, true, true, true, true, true, true, false] rfl rfl (by kernel_rfl) (fun _ _ _ h => h) (Or.inl ⟨by rfl, ?_⟩) hHeld ?_ ?_
  rotate_left
  · rintro w' ⟨s0, s1⟩
    go_simp
    with_reducible rfl
  rotate_left
  · simp only [Act.put, List.setIfInBounds_toArray, List.set_cons_zero, List.set_cons_succ, i64_w, i32_w]
    rfl
  refine pure_ (i := 9) (N := some 55) (v := ?_) (a' := ?_) #[true, true, true, true, true, true, true, true, true, true] rfl rfl (by kernel_rfl) (fun _ _ _ h => h) (Or.inl ⟨by rfl, ?_⟩) ?_ ?_
  rotate_left
  · intro w'
    go_simp
    with_reducible rfl
  rotate_left
  · simp only [Act.put, List.setIfInBounds_toArray, List.set_cons_zero, List.set_cons_succ, i64_w, i32_w]
    rfl
  refine done_ (by kernel_rfl) ?_
  first | simp only [b6] | simp only [b5] | skip
  clear q0 q1
  have H4 := Aside0.mk (show SkAt w3.drew.drew g base S most from (H3.out.below (below_drew1 (Below.refl _ _))).below (below_drew1 (Below.refl _ _)))
  have HB4 := Aside0.mk (show Below w.heap.size w w3.drew.drew from below_drew1 (below_drew1 HB3.out))
  have HX4 := Aside0.mk (show w3.drew.drew.heap[w.heap.size]? = _ from HX3.out)
  generalize w3.drew.drew = w4 at H4 HB4 HX4 ⊢
  clear H3 HB3 HX3 H2 HB2 HX2 b5 b6
  have x0 := blk_cell HX4.out 0
  have x1 := blk_cell HX4.out 1
  have x2 := blk_cell HX4.out 2
  go_wp2_with fail
  (with_reducible refine (sk_trail g base most S k _ H4.out).mono ?_)
  rintro e w5 ⟨rfl, hb⟩
  have HB5 := Aside0.mk (below_step HB4.out hb)
  have HX5 := Aside0.mk (blk_below HX4.out hb)
  have HA := Aside0.mk (show ArrAt (w5.alloc (.cells #[.int .i64 0, .int .i64 0, .int .i64 0, .int .i64 0, .int .i64 0, .int .i64 0, .int .i64 0, .int .i64 0, .int .i64 0, .int .i64 0, .int .i64 0, .int .i64 0] 85)) w5.heap.size 85 (List.replicate 12 0) from ArrAt.fresh w5 85 (List.replicate 12 0))
  have HBA := Aside0.mk (below_alloc HB5.out (.cells #[.int .i64 0, .int .i64 0, .int .i64 0, .int .i64 0, .int .i64 0, .int .i64 0, .int .i64 0, .int .i64 0, .int .i64 0, .int .i64 0, .int .i64 0, .int .i64 0] 85))
  have hlen := trL_len S k
  have hlen0 : (List.replicate 12 0).length = 12 := rfl
  have HXA := Aside0.mk (blk_alloc HX5.out (.cells #[.int .i64 0, .int .i64 0, .int .i64 0, .int .i64 0, .int .i64 0, .int .i64 0, .int .i64 0, .int .i64 0, .int .i64 0, .int .i64 0, .int .i64 0, .int .i64 0] 85))
  have htw : w.heap.size + 1 ≤ w5.heap.size := blk_lt HX5.out
  obtain ⟨p0, hp0⟩ : ∃ p0, trt0 S k 0 = p0 := ⟨_, rfl⟩
  have hpb : p0 ≤ 1048576 := by have := trt0_lt HF.out.1 k 0; have := HN1.out; omega
  have HP0 := Aside0.mk hp0
  have HQ0 := Aside0.mk (fun (W : World) (hb : Below w.heap.size w W) => by
    have := (hb.block g hgw).trans HI1.out
    rw [HN1.out] at this
    exact ((blk_cell this 0).trans rfl : W.cell? ⟨g, 0, none⟩ = some (.slice (some ⟨bb, 0, none⟩) N cc)))
  clear hb x0 x1 x2 H4 HB4 HX4 hp0
  go_wp2_with (first
    | ((with_reducible refine gate_ (.store 85 (.tmp 10) (.tmp 58)) rfl ?_); refine wpList_store_arr rfl rfl _ _ _ rfl _ rfl HA.out _ rfl hi12 hlen hlen0 ?_; generalize hW6 : World.setCells _ _ _ _ = w6; (have HA6 := Aside0.mk (HA.out.setc _ (hlen.trans hlen0.symm))); (have HB6 := Aside0.mk (belowSetCells w5.heap.size (below_size HB5.out) ((trL S k).map ei) 0 _ HBA.out)); (have HX6 := Aside0.mk (((belowSetCells (B := w.heap.size + 1) (a := w5.alloc (.cells #[.int .i64 0, .int .i64 0, .int .i64 0, .int .i64 0, .int .i64 0, .int .i64 0, .int .i64 0, .int .i64 0, .int .i64 0, .int .i64 0, .int .i64 0, .int .i64 0] 85)) w5.heap.size htw ((trL S k).map ei) 0 _ (Below.refl _ _)).block w.heap.size (Nat.lt_succ_self _)).trans HXA.out)); rw [hW6] at HA6 HB6 HX6; (have q0 := HQ0.out w6 HB6.out); (have x0 := blk_cell HX6.out 0); (have x1 := blk_cell HX6.out 1); (have x2 := blk_cell HX6.out 2); (have a0 := HA6.out.cell 0 (by rw [trL_len]; decide)); rw [trL_get S k 0 (by decide), show tr S.ht 0 (S.below k) = p0 from HP0.out] at a0 ; clear HA HBA HXA hW6 HB5 HX5; generalize w5.heap.size = tb at HA6 htw a0 ⊢)
    )
  have HX7 := Aside0.mk (BlkAt.fresh w6 101 (encN ⟨k, v, h0, List.replicate 12 0, p0⟩))
  have HB7 := Aside0.mk (below_alloc HB6.out (.cells (encN (⟨k, v, h0, List.replicate 12 0, p0⟩ : ND ByteArray)).toArray 101))
  have HA7 := Aside0.mk (HA6.out.alloc (.cells (encN (⟨k, v, h0, List.replicate 12 0, p0⟩ : ND ByteArray)).toArray 101))
  have htx := HA6.out.lt
  have hxw := below_size HB6.out
  rw [show (Obj.cells (encN (⟨k, v, h0, List.replicate 12 0, p0⟩ : ND ByteArray)).toArray 101) = Obj.cells #[.string k.1, .int .u64 k.2.1, .int .i64 k.2.2, encV_ v, .int .i64 (h0 : Int), .int .i32 0, .int .i32 0, .int .i32 0, .int .i32 0, .int .i32 0, .int .i32 0, .int .i32 0, .int .i32 0, .int .i32 0, .int .i32 0, .int .i32 0, .int .i32 0, .int .i32 (p0 : Int)] 101 from rfl] at HX7 HB7 HA7
  simp only [encV_] at HX7 HB7 HA7
  generalize w6.alloc _ = w7 at HX7 HB7 HA7 ⊢
  clear HA6 HB6 HX6 x0 x1 x2 q0 a0
  generalize w6.heap.size = xb at HX7 htx hxw ⊢
  have HI := Aside0.mk (show InsAt w w7 g base most bb cc tb xb S nl k v h0 0 from ⟨(HB7.out.block g hgw).trans HI1.out, Kd.R_below HI2.out HB7.out, HA7.out, by rw [HP0.out]; exact HX7.out, Kept.of_below HB7.out _, ⟨HB7.out.os, HB7.out.tape, HB7.out.output, HB7.out.size, fun q hq => HB7.out.block q (by omega)⟩⟩)
  clear HX7 HB7 HA7
  go_loopg [13, 72] (1 + h0) (fun kq v13 v72 wr => ∃ m : Nat, v72 = .int .i64 (m : Int) ∧ m ≤ h0 ∧ h0 - m < kq ∧ Aside0 (InsAt w wr g base most bb cc tb xb S nl k v h0 m))
  case atStart => exact ⟨0, rfl, Nat.zero_le _, by omega, HI⟩
  case round =>
    clear HI
    obtain ⟨m, rfl, hmh, hkq, HI⟩ := hrel
    cases gk with
    | zero => omega
    | succ gk1 =>
    by_cases hm : m < h0
    · have c1 : decide ((m : Int) < (h0 : Int)) = true := decide_eq_true (by omega)
      have c2 : decide (m < h0) = true := decide_eq_true hm
      have hm12 : m < 12 := by omega
      obtain ⟨r0, r1, r2, ⟨u, r3⟩, r4⟩ := HI.out.reads HF.out.1 hm12
      have hzN := trt0_lt HF.out.1 k m
      obtain ⟨_, _, _, _, r5⟩ := node_cells HI.out.row (trt0 S k m) hzN
      have r5 := r5 (5 + m)
      rw [← Nat.add_assoc] at r5
      obtain ⟨y, hy⟩ : ∃ y, nxtOf (iterL nl (trt0 S k) (S.nodes.length + 1) m) m (trt0 S k m) = y := ⟨_, rfl⟩
      rw [hy] at r2
      have HCP := Aside0.mk (fun (W1 : World) (hW : wr.setCell ⟨xb, 5 + m, none⟩ (.int .i32 (y : Int)) = W1) => HI.out.copy (W1 := W1) hm12 hxw hgw hbw (by omega) (by omega) (by rw [hy]; exact hW))
      obtain ⟨z, hz⟩ : ∃ z, trt0 S k m = z := ⟨_, rfl⟩
      rw [hz] at r1 r2 r5 hzN
      rw [HN1.out] at r0 hzN
      have HZM := Aside0.mk hz
      have hbx : bb ≠ xb := by omega
      have hgx : g ≠ xb := by omega
      have htx' : tb ≠ xb := by omega
      have hm12i : (m : Int) < 12 := by omega
      have hzNi : (z : Int) < (N : Int) := by omega
      clear hy hz
      go_wp2_with fail
      refine start_ (n := 16) (S := fun w' => w'.cell? ⟨g, 0, none⟩ = some (.slice (some ⟨bb, 0, none⟩) N cc) ∧ w'.cell? ⟨tb, m, none⟩ = some (.int .i64 (z : Int)) ∧ w'.cell? ⟨bb, z * 18 + 5 + m, none⟩ = some (.int .i32 (y : Int))) (ds := []) #[false, false, false, false, false, false, false, false, false, false, false, false, false, false, false, false] (by kernel_rfl) rfl rfl ⟨r0, r1, r2⟩ (fun hHeld => ?_)
      refine pure_ (i := 0) (N := some 75) (v := ?_) (a' := ?_) #[true, false, false, false, false, false, false, false, false, false, false, false, false, false, false, false] rfl rfl (by kernel_rfl) (fun _ _ _ h => h) (Or.inl ⟨by rfl, ?_⟩) ?_ ?_
      rotate_left
      · intro w'
        go_simp
        with_reducible rfl
      rotate_left
      · simp only [Act.put, List.setIfInBounds_toArray, List.set_cons_zero, List.set_cons_succ, i64_w, i32_w]
        rfl
      refine pure_ (i := 1) (N := some 76) (v := ?_) (a' := ?_) #[true, true, false, false, false, false, false, false, false, false, false, false, false, false, false, false] rfl rfl (by kernel_rfl) (fun _ _ _ h => h) (Or.inl ⟨by rfl, ?_⟩) ?_ ?_
      rotate_left
      · intro w'
        go_simp
        with_reducible rfl
      rotate_left
      · simp only [Act.put, List.setIfInBounds_toArray, List.set_cons_zero, List.set_cons_succ, i64_w, i32_w]
        rfl
      refine pure_ (i := 2) (N := some 77) (v := ?_) (a' := ?_) #[true, true, true, false, false, false, false, false, false, false, false, false, false, false, false, false] rfl rfl (by kernel_rfl) (fun _ _ _ h => h) (Or.inl ⟨by rfl, ?_⟩) ?_ ?_
      rotate_left
      · intro w'
        go_simp
        with_reducible rfl
      rotate_left
      · simp only [Act.put, List.setIfInBounds_toArray, List.set_cons_zero, List.set_cons_succ, i64_w, i32_w]
        rfl
      refine pure_ (i := 3) (N := some 78) (v := ?_) (a' := ?_) #[true, true, true, true, false, false, false, false, false, false, false, false, false, false, false, false] rfl rfl (by kernel_rfl) (fun _ _ _ h => h) (Or.inl ⟨by rfl, ?_⟩) ?_ ?_
      rotate_left
      · intro w'
        go_simp
        with_reducible rfl
      rotate_left
      · simp only [Act.put, List.setIfInBounds_toArray, List.set_cons_zero, List.set_cons_succ, i64_w, i32_w]
        rfl
      refine pure_ (i := 5) (N := some 80) (v := ?_) (a' := ?_) #[true, true, true, true, false, true, false, false, false, false, false, false, false, false, false, false] rfl rfl (by kernel_rfl) (fun _ _ _ h => h) (Or.inl ⟨by rfl, ?_⟩) ?_ ?_
      rotate_left
      · intro w'
        go_simp
        with_reducible rfl
      rotate_left
      · simp only [Act.put, List.setIfInBounds_toArray, List.set_cons_zero, List.set_cons_succ, i64_w, i32_w]
        rfl
      refine pure_ (i := 6) (N := some 81) (v := ?_) (a' := ?_) #[true, true, true, true, false, true, true, false, false, false, false, false, false, false, false, false] rfl rfl (by kernel_rfl) (fun _ _ _ h => h) (Or.inl ⟨by rfl, ?_⟩) ?_ ?_
      rotate_left
      · intro w'
        go_simp
        with_reducible rfl
      rotate_left
      · simp only [Act.put, List.setIfInBounds_toArray, List.set_cons_zero, List.set_cons_succ, i64_w, i32_w]
        rfl
      refine pure_ (i := 8) (N := some 83) (v := ?_) (a' := ?_) #[true, true, true, true, false, true, true, false, true, false, false, false, false, false, false, false] rfl rfl (by kernel_rfl) (fun _ _ _ h => h) (Or.inl ⟨by rfl, ?_⟩) ?_ ?_
      rotate_left
      · intro w'
        go_simp
        with_reducible rfl
      rotate_left
      · simp only [Act.put, List.setIfInBounds_toArray, List.set_cons_zero, List.set_cons_succ, i64_w, i32_w]
        rfl
      refine pure_ (i := 13) (N := some 88) (v := ?_) (a' := ?_) #[true, true, true, true, false, true, true, false, true, false, false, false, false, true, false, false] rfl rfl (by kernel_rfl) (fun _ _ _ h => h) (Or.inl ⟨by rfl, ?_⟩) ?_ ?_
      rotate_left
      · intro w'
        go_simp
        with_reducible rfl
      rotate_left
      · simp only [Act.put, List.setIfInBounds_toArray, List.set_cons_zero, List.set_cons_succ, i64_w, i32_w]
        rfl
      refine take_ (i := 4) (N := some 79) (v := ?_) (a' := ?_) #[true, true, true, true, true, true, true, false, true, false, false, false, false, true, false, false] rfl rfl (by kernel_rfl) (fun _ _ _ h => h) (Or.inl ⟨by rfl, ?_⟩) hHeld ?_ ?_
      rotate_left
      · rintro w' ⟨s0, s1, s2⟩
        go_simp
        with_reducible rfl
      rotate_left
      · simp only [Act.put, List.setIfInBounds_toArray, List.set_cons_zero, List.set_cons_succ, i64_w, i32_w]
        rfl
      refine take_ (i := 7) (N := some 82) (v := ?_) (a' := ?_) #[true, true, true, true, true, true, true, true, true, false, false, false, false, true, false, false] rfl rfl (by kernel_rfl) (fun _ _ _ h => h) (Or.inl ⟨by rfl, ?_⟩) hHeld ?_ ?_
      rotate_left
      · rintro w' ⟨s0, s1, s2⟩
        go_simp
        with_reducible rfl
      rotate_left
      · simp only [Act.put, List.setIfInBounds_toArray, List.set_cons_zero, List.set_cons_succ, i64_w, i32_w]
        rfl
      refine pure_ (i := 9) (N := some 84) (v := ?_) (a' := ?_) #[true, true, true, true, true, true, true, true, true, true, false, false, false, true, false, false] rfl rfl (by kernel_rfl) (fun _ _ _ h => h) (Or.inl ⟨by rfl, ?_⟩) ?_ ?_
      rotate_left
      · intro w'
        go_simp
        with_reducible rfl
      rotate_left
      · simp only [Act.put, List.setIfInBounds_toArray, List.set_cons_zero, List.set_cons_succ, i64_w, i32_w]
        rfl
      refine pure_ (i := 10) (N := some 85) (v := ?_) (a' := ?_) #[true, true, true, true, true, true, true, true, true, true, true, false, false, true, false, false] rfl rfl (by kernel_rfl) (fun _ _ _ h => h) (Or.inl ⟨by rfl, ?_⟩) ?_ ?_
      rotate_left
      · intro w'
        go_simp
        with_reducible rfl
      rotate_left
      · simp only [Act.put, List.setIfInBounds_toArray, List.set_cons_zero, List.set_cons_succ, i64_w, i32_w]
        rfl
      refine pure_ (i := 11) (N := some 86) (v := ?_) (a' := ?_) #[true, true, true, true, true, true, true, true, true, true, true, true, false, true, false, false] rfl rfl (by kernel_rfl) (fun _ _ _ h => h) (Or.inl ⟨by rfl, ?_⟩) ?_ ?_
      rotate_left
      · intro w'
        go_simp
        with_reducible rfl
      rotate_left
      · simp only [Act.put, List.setIfInBounds_toArray, List.set_cons_zero, List.set_cons_succ, i64_w, i32_w]
        rfl
      refine take_ (i := 12) (N := some 87) (v := ?_) (a' := ?_) #[true, true, true, true, true, true, true, true, true, true, true, true, true, true, false, false] rfl rfl (by kernel_rfl) (fun _ _ _ h => h) (Or.inl ⟨by rfl, ?_⟩) hHeld ?_ ?_
      rotate_left
      · rintro w' ⟨s0, s1, s2⟩
        go_simp
        with_reducible rfl
      rotate_left
      · simp only [Act.put, List.setIfInBounds_toArray, List.set_cons_zero, List.set_cons_succ, i64_w, i32_w]
        rfl
      refine pure_ (i := 14) (N := some 89) (v := ?_) (a' := ?_) #[true, true, true, true, true, true, true, true, true, true, true, true, true, true, true, false] rfl rfl (by kernel_rfl) (fun _ _ _ h => h) (Or.inl ⟨by rfl, ?_⟩) ?_ ?_
      rotate_left
      · intro w'
        go_simp
        with_reducible rfl
      rotate_left
      · simp only [Act.put, List.setIfInBounds_toArray, List.set_cons_zero, List.set_cons_succ, i64_w, i32_w]
        rfl
      refine one_ (i := 15) (N := none) #[true, true, true, true, true, true, true, true, true, true, true, true, true, true, true, true] rfl rfl (by kernel_rfl) (by decide) (fun K hK => ?_)
      refine skip_ (w1 := ?_) (by rfl) rfl ?_ ?_
      rotate_left
      · go_simp
        rfl
      generalize hW8 : wr.setCell _ _ = w8
      have HC8 := Aside0.mk (HCP.out w8 hW8)
      have s0 : w8.cell? ⟨g, 0, none⟩ = some (.slice (some ⟨bb, 0, none⟩) N cc) := (by rw [← hW8, cell_ne hgx]; exact r0)
      have s1 : w8.cell? ⟨tb, m, none⟩ = some (.int .i64 (z : Int)) := (by rw [← hW8, cell_ne htx']; exact r1)
      have s2 : w8.cell? ⟨bb, z * 18 + 5 + m, none⟩ = some (.int .i32 (y : Int)) := (by rw [← hW8, cell_ne hbx]; exact r2)
      clear hW8
      refine hK.out _ _ ⟨s0, s1, s2⟩ (fun hHeld => ?_)
      clear hK K
      refine done_ (by kernel_rfl) ?_
      obtain ⟨_, _, _, _, s5⟩ := node_cells HC8.out.2.1 (trt0 S k m) (by rw [HZM.out, HN1.out]; exact hzN)
      have s5 := s5 (5 + m)
      rw [← Nat.add_assoc, HZM.out] at s5
      have HLK := Aside0.mk (fun (W1 : World) (hW : w8.setCell ⟨bb, z * 18 + 5 + m, none⟩ (.int .i32 (N : Int)) = W1) => InsAt.link (W1 := W1) (base := base) (most := most) (c := cc) HF.out.1 hm12 hxw hgw hbw hgb (by omega) (HC8.out.1.trans HI.out.blk) HC8.out.2.1 HC8.out.2.2.1 HC8.out.2.2.2.1 HC8.out.2.2.2.2.1 HC8.out.2.2.2.2.2 hbb (by rw [HZM.out, ← Nat.add_assoc, HN1.out]; exact hW))
      clear r0 r1 r2 r3 r4 r5
      have htbb : tb ≠ bb := by omega
      go_wp2_with fail
      have hw32 := HW32.out
      refine start_ (n := 14) (S := fun w' => w'.cell? ⟨g, 0, none⟩ = some (.slice (some ⟨bb, 0, none⟩) N cc) ∧ w'.cell? ⟨tb, m, none⟩ = some (.int .i64 (z : Int))) (ds := []) #[false, false, false, false, false, false, false, false, false, false, false, false, false, false] (by kernel_rfl) rfl rfl ⟨s0, s1⟩ (fun hHeld => ?_)
      refine pure_ (i := 0) (N := some 90) (v := ?_) (a' := ?_) #[true, false, false, false, false, false, false, false, false, false, false, false, false, false] rfl rfl (by kernel_rfl) (fun _ _ _ h => h) (Or.inl ⟨by rfl, ?_⟩) ?_ ?_
      rotate_left
      · intro w'
        go_simp
        with_reducible rfl
      rotate_left
      · simp only [Act.put, List.setIfInBounds_toArray, List.set_cons_zero, List.set_cons_succ, i64_w, i32_w]
        rfl
      refine pure_ (i := 1) (N := some 91) (v := ?_) (a' := ?_) #[true, true, false, false, false, false, false, false, false, false, false, false, false, false] rfl rfl (by kernel_rfl) (fun _ _ _ h => h) (Or.inl ⟨by rfl, ?_⟩) ?_ ?_
      rotate_left
      · intro w'
        go_simp
        with_reducible rfl
      rotate_left
      · simp only [Act.put, List.setIfInBounds_toArray, List.set_cons_zero, List.set_cons_succ, i64_w, i32_w]
        rfl
      refine pure_ (i := 2) (N := some 92) (v := ?_) (a' := ?_) #[true, true, true, false, false, false, false, false, false, false, false, false, false, false] rfl rfl (by kernel_rfl) (fun _ _ _ h => h) (Or.inl ⟨by rfl, ?_⟩) ?_ ?_
      rotate_left
      · intro w'
        go_simp
        with_reducible rfl
      rotate_left
      · simp only [Act.put, List.setIfInBounds_toArray, List.set_cons_zero, List.set_cons_succ, i64_w, i32_w]
        rfl
      refine pure_ (i := 4) (N := some 94) (v := ?_) (a' := ?_) #[true, true, true, false, true, false, false, false, false, false, false, false, false, false] rfl rfl (by kernel_rfl) (fun _ _ _ h => h) (Or.inl ⟨by rfl, ?_⟩) ?_ ?_
      rotate_left
      · intro w'
        go_simp
        with_reducible rfl
      rotate_left
      · simp only [Act.put, List.setIfInBounds_toArray, List.set_cons_zero, List.set_cons_succ, i64_w, i32_w]
        rfl
      refine pure_ (i := 5) (N := some 95) (v := ?_) (a' := ?_) #[true, true, true, false, true, true, false, false, false, false, false, false, false, false] rfl rfl (by kernel_rfl) (fun _ _ _ h => h) (Or.inl ⟨by rfl, ?_⟩) ?_ ?_
      rotate_left
      · intro w'
        go_simp
        with_reducible rfl
      rotate_left
      · simp only [Act.put, List.setIfInBounds_toArray, List.set_cons_zero, List.set_cons_succ, i64_w, i32_w]
        rfl
      refine pure_ (i := 7) (N := some 97) (v := ?_) (a' := ?_) #[true, true, true, false, true, true, false, true, false, false, false, false, false, false] rfl rfl (by kernel_rfl) (fun _ _ _ h => h) (Or.inl ⟨by rfl, ?_⟩) ?_ ?_
      rotate_left
      · intro w'
        go_simp
        with_reducible rfl
      rotate_left
      · simp only [Act.put, List.setIfInBounds_toArray, List.set_cons_zero, List.set_cons_succ, i64_w, i32_w]
        rfl
      refine pure_ (i := 8) (N := some 98) (v := ?_) (a' := ?_) #[true, true, true, false, true, true, false, true, true, false, false, false, false, false] rfl rfl (by kernel_rfl) (fun _ _ _ h => h) (Or.inl ⟨by rfl, ?_⟩) ?_ ?_
      rotate_left
      · intro w'
        go_simp
        with_reducible rfl
      rotate_left
      · simp only [Act.put, List.setIfInBounds_toArray, List.set_cons_zero, List.set_cons_succ, i64_w, i32_w]
        rfl
      refine pure_ (i := 9) (N := some 99) (v := ?_) (a' := ?_) #[true, true, true, false, true, true, false, true, true, true, false, false, false, false] rfl rfl (by kernel_rfl) (fun _ _ _ h => h) (Or.inl ⟨by rfl, ?_⟩) ?_ ?_
      rotate_left
      · intro w'
        go_simp
        with_reducible rfl
      rotate_left
      · simp only [Act.put, List.setIfInBounds_toArray, List.set_cons_zero, List.set_cons_succ, i64_w, i32_w]
        rfl
      refine take_ (i := 3) (N := some 93) (v := ?_) (a' := ?_) #[true, true, true, true, true, true, false, true, true, true, false, false, false, false] rfl rfl (by kernel_rfl) (fun _ _ _ h => h) (Or.inl ⟨by rfl, ?_⟩) hHeld ?_ ?_
      rotate_left
      · rintro w' ⟨s0, s1⟩
        go_simp
        with_reducible rfl
      rotate_left
      · simp only [Act.put, List.setIfInBounds_toArray, List.set_cons_zero, List.set_cons_succ, i64_w, i32_w]
        rfl
      refine take_ (i := 6) (N := some 96) (v := ?_) (a' := ?_) #[true, true, true, true, true, true, true, true, true, true, false, false, false, false] rfl rfl (by kernel_rfl) (fun _ _ _ h => h) (Or.inl ⟨by rfl, ?_⟩) hHeld ?_ ?_
      rotate_left
      · rintro w' ⟨s0, s1⟩
        go_simp
        with_reducible rfl
      rotate_left
      · simp only [Act.put, List.setIfInBounds_toArray, List.set_cons_zero, List.set_cons_succ, i64_w, i32_w]
        rfl
      refine pure_ (i := 10) (N := some 100) (v := ?_) (a' := ?_) #[true, true, true, true, true, true, true, true, true, true, true, false, false, false] rfl rfl (by kernel_rfl) (fun _ _ _ h => h) (Or.inl ⟨by rfl, ?_⟩) ?_ ?_
      rotate_left
      · intro w'
        go_simp
        with_reducible rfl
      rotate_left
      · simp only [Act.put, List.setIfInBounds_toArray, List.set_cons_zero, List.set_cons_succ, i64_w, i32_w]
        rfl
      refine pure_ (i := 11) (N := some 101) (v := ?_) (a' := ?_) #[true, true, true, true, true, true, true, true, true, true, true, true, false, false] rfl rfl (by kernel_rfl) (fun _ _ _ h => h) (Or.inl ⟨by rfl, ?_⟩) ?_ ?_
      rotate_left
      · intro w'
        go_simp
        with_reducible rfl
      rotate_left
      · simp only [Act.put, List.setIfInBounds_toArray, List.set_cons_zero, List.set_cons_succ, i64_w, i32_w]
        rfl
      refine pure_ (i := 12) (N := some 102) (v := ?_) (a' := ?_) #[true, true, true, true, true, true, true, true, true, true, true, true, true, false] rfl rfl (by kernel_rfl) (fun _ _ _ h => h) (Or.inl ⟨by rfl, ?_⟩) ?_ ?_
      rotate_left
      · intro w'
        go_simp
        with_reducible rfl
      rotate_left
      · simp only [Act.put, List.setIfInBounds_toArray, List.set_cons_zero, List.set_cons_succ, i64_w, i32_w]
        rfl
      refine one_ (i := 13) (N := none) #[true, true, true, true, true, true, true, true, true, true, true, true, true, true] rfl rfl (by kernel_rfl) (by decide) (fun K hK => ?_)
      refine skip_ (w1 := ?_) (by rfl) rfl ?_ ?_
      rotate_left
      · go_simp
        rfl
      generalize hW9 : w8.setCell _ _ = w9
      have HI9 := Aside0.mk (HLK.out w9 hW9)
      have t0 : w9.cell? ⟨g, 0, none⟩ = some (.slice (some ⟨bb, 0, none⟩) N cc) := (by rw [← hW9, cell_ne hgb]; exact s0)
      have t1 : w9.cell? ⟨tb, m, none⟩ = some (.int .i64 (z : Int)) := (by rw [← hW9, cell_ne htbb]; exact s1)
      clear hW9
      refine hK.out _ _ ⟨t0, t1⟩ (fun hHeld => ?_)
      clear hK K
      refine done_ (by kernel_rfl) ?_
      clear s0 s1 s2 s5 t0 t1 hw32
      go_wp2
      go_roundg gk1
      case measure => omega
      case rel => exact ⟨m + 1, by rfl, by omega, by omega, ⟨HI9.out.drew.drew⟩⟩
    · have hme : m = h0 := by omega
      have c1 : decide ((m : Int) < (h0 : Int)) = false := decide_eq_false (by omega)
      have c2 : decide (m < h0) = false := decide_eq_false hm
      rw [hme] at HI
      have hsk := next0 HF.out.1 HIM.out k (S.nodes.length + 1) HH0.out.1 HH0.out.2
      obtain ⟨a0, a1, a2, a3, a4, a5, a6, a7, a8, a9, a10, a11, hX⟩ := list12 (iterX_len nl (trt0 S k) (S.nodes.length + 1) h0)
      rw [hX] at hsk
      have hsk' : a0 = S.seek k := hsk
      have hnode := HI.out.node
      rw [hX, HP0.out] at hnode
      have HXL := Aside0.mk (show BlkAt wr xb 101 [.string k.1, .int .u64 k.2.1, .int .i64 k.2.2, .string v, .int .i64 (h0 : Int), .int .i32 (a0 : Int), .int .i32 (a1 : Int), .int .i32 (a2 : Int), .int .i32 (a3 : Int), .int .i32 (a4 : Int), .int .i32 (a5 : Int), .int .i32 (a6 : Int), .int .i32 (a7 : Int), .int .i32 (a8 : Int), .int .i32 (a9 : Int), .int .i32 (a10 : Int), .int .i32 (a11 : Int), .int .i32 (p0 : Int)] from hnode)
      have r0 : wr.cell? ⟨g, 0, none⟩ = some (.slice (some ⟨bb, 0, none⟩) N cc) := by
        have := HI.out.blk
        rw [HN1.out] at this
        exact (blk_cell this 0).trans rfl
      have HRW := Aside0.mk HI.out.row
      rw [HN1.out] at HRW
      have HLN := Aside0.mk (show (iterL nl (trt0 S k) N h0).length = N by rw [iterL_len, HIM.out.len, HN1.out])
      have hbx : bb ≠ xb := by omega
      have hgx : g ≠ xb := by omega
      have hbs : base ≤ wr.heap.size := Nat.le_trans (by omega) HI.out.bel.size
      have HBL := Aside0.mk (show Below base w wr.drew from ⟨HI.out.bel.os, HI.out.bel.tape, HI.out.bel.output, HI.out.bel.size, HI.out.bel.block⟩)
      have hgl : g < wr.drew.heap.size := blk_lt HI.out.blk
      have hxl : xb < wr.drew.heap.size := HXL.out.lt
      have HSA := Aside0.mk hsk'
      have HXX := Aside0.mk hX
      clear hm hme hkq hmh hX hsk hsk' hnode
      go_wp2_with fail
      refine start_ (n := 11) (S := fun w' => w'.cell? ⟨g, 0, none⟩ = some (.slice (some ⟨bb, 0, none⟩) N cc)) (ds := [10]) #[false, false, false, false, false, false, false, false, false, false, false] (by kernel_rfl) rfl rfl (r0) (fun hHeld => ?_)
      refine pure_ (i := 0) (N := some 104) (v := ?_) (a' := ?_) #[true, false, false, false, false, false, false, false, false, false, false] rfl rfl (by kernel_rfl) (fun _ _ _ h => h) (Or.inl ⟨by rfl, ?_⟩) ?_ ?_
      rotate_left
      · intro w'
        go_simp
        with_reducible rfl
      rotate_left
      · simp only [Act.put, List.setIfInBounds_toArray, List.set_cons_zero, List.set_cons_succ, i64_w, i32_w]
        rfl
      refine pure_ (i := 1) (N := some 105) (v := ?_) (a' := ?_) #[true, true, false, false, false, false, false, false, false, false, false] rfl rfl (by kernel_rfl) (fun _ _ _ h => h) (Or.inl ⟨by rfl, ?_⟩) ?_ ?_
      rotate_left
      · intro w'
        go_simp
        with_reducible rfl
      rotate_left
      · simp only [Act.put, List.setIfInBounds_toArray, List.set_cons_zero, List.set_cons_succ, i64_w, i32_w]
        rfl
      refine pure_ (i := 2) (N := some 106) (v := ?_) (a' := ?_) #[true, true, true, false, false, false, false, false, false, false, false] rfl rfl (by kernel_rfl) (fun _ _ _ h => h) (Or.inl ⟨by rfl, ?_⟩) ?_ ?_
      rotate_left
      · intro w'
        go_simp
        with_reducible rfl
      rotate_left
      · simp only [Act.put, List.setIfInBounds_toArray, List.set_cons_zero, List.set_cons_succ, i64_w, i32_w]
        rfl
      refine pure_ (i := 3) (N := some 107) (v := ?_) (a' := ?_) #[true, true, true, true, false, false, false, false, false, false, false] rfl rfl (by kernel_rfl) (fun _ _ _ h => h) (Or.inl ⟨by rfl, ?_⟩) ?_ ?_
      rotate_left
      · intro w'
        go_simp
        with_reducible rfl
      rotate_left
      · simp only [Act.put, List.setIfInBounds_toArray, List.set_cons_zero, List.set_cons_succ, i64_w, i32_w]
        rfl
      refine take_ (i := 4) (N := some 108) (v := ?_) (a' := ?_) #[true, true, true, true, true, false, false, false, false, false, false] rfl rfl (by kernel_rfl) (fun _ _ _ h => h) (Or.inl ⟨by rfl, ?_⟩) hHeld ?_ ?_
      rotate_left
      · intro w' s0
        go_simp
        with_reducible rfl
      rotate_left
      · simp only [Act.put, List.setIfInBounds_toArray, List.set_cons_zero, List.set_cons_succ, i64_w, i32_w]
        rfl
      refine one_ (i := 5) (N := some 109) #[true, true, true, true, true, true, false, false, false, false, false] rfl rfl (by kernel_rfl) (by decide) (fun K hK => ?_)
      refine value_ (w1 := wr.drew) (v := .agg #[.string k.1, .int .u64 k.2.1, .int .i64 k.2.2, .string v, .int .i64 (h0 : Int), .int .i32 (a0 : Int), .int .i32 (a1 : Int), .int .i32 (a2 : Int), .int .i32 (a3 : Int), .int .i32 (a4 : Int), .int .i32 (a5 : Int), .int .i32 (a6 : Int), .int .i32 (a7 : Int), .int .i32 (a8 : Int), .int .i32 (a9 : Int), .int .i32 (a10 : Int), .int .i32 (a11 : Int), .int .i32 (p0 : Int)]) (by rfl) rfl (exec_load_blk _ _ rfl xb rfl HXL.out.drew _ Try.underlying101 rfl hi18) ?_
      refine hK.out _ _ (r0) (fun hHeld => ?_)
      clear hK K
      refine norm_ (a' := ?_) ?_ ?_
      rotate_left
      · show Act.put _ (some 109) _ = _
        simp only [Act.put, List.setIfInBounds_toArray, List.set_cons_zero, List.set_cons_succ, i64_w, i32_w]
        rfl
      refine one_ (i := 6) (N := some 110) #[true, true, true, true, true, true, true, false, false, false, false] rfl rfl (by kernel_rfl) (by decide) (fun K hK => ?_)
      refine value_ (w1 := ?_) (v := ?_) (by rfl) rfl ?_ ?_
      rotate_left 2
      · go_simp
        constructor
        · rfl
        · rfl
      refine hK.out _ _ ((pw_cell_below (below_alloc (Below.refl _ _) _) r0)) (fun hHeld => ?_)
      clear hK K
      refine norm_ (a' := ?_) ?_ ?_
      rotate_left
      · show Act.put _ (some 110) _ = _
        simp only [Act.put, List.setIfInBounds_toArray, List.set_cons_zero, List.set_cons_succ, i64_w, i32_w]
        rfl
      refine one_ (i := 7) (N := some 111) #[true, true, true, true, true, true, true, true, false, false, false] rfl rfl (by kernel_rfl) (by decide) (fun K hK => ?_)
      rw [show (wr.alloc (.cells #[.string k.1, .int .u64 k.2.1, .int .i64 k.2.2, .string v, .int .i64 (h0 : Int), .int .i32 (a0 : Int), .int .i32 (a1 : Int), .int .i32 (a2 : Int), .int .i32 (a3 : Int), .int .i32 (a4 : Int), .int .i32 (a5 : Int), .int .i32 (a6 : Int), .int .i32 (a7 : Int), .int .i32 (a8 : Int), .int .i32 (a9 : Int), .int .i32 (a10 : Int), .int .i32 (a11 : Int), .int .i32 (p0 : Int)] 101)).drew = wr.drew.alloc (.cells #[.string k.1, .int .u64 k.2.1, .int .i64 k.2.2, .string v, .int .i64 (h0 : Int), .int .i32 (a0 : Int), .int .i32 (a1 : Int), .int .i32 (a2 : Int), .int .i32 (a3 : Int), .int .i32 (a4 : Int), .int .i32 (a5 : Int), .int .i32 (a6 : Int), .int .i32 (a7 : Int), .int .i32 (a8 : Int), .int .i32 (a9 : Int), .int .i32 (a10 : Int), .int .i32 (a11 : Int), .int .i32 (p0 : Int)] 101) from rfl]
      refine Kd.R_append_step ndK (w0 := w) (W := wr.drew) base (by rfl) (.tmp 108) (.tmp 110) 93 101 _ _ rfl Try.underlying93 info_nd rfl (by decide) (by decide) (.slice (some ⟨bb, 0, none⟩) N cc) (iterL nl (trt0 S k) N h0) ⟨k, v, h0, [a0, a1, a2, a3, a4, a5, a6, a7, a8, a9, a10, a11], p0⟩ [.string k.1, .int .u64 k.2.1, .int .i64 k.2.2, .string v, .int .i64 (h0 : Int), .int .i32 (a0 : Int), .int .i32 (a1 : Int), .int .i32 (a2 : Int), .int .i32 (a3 : Int), .int .i32 (a4 : Int), .int .i32 (a5 : Int), .int .i32 (a6 : Int), .int .i32 (a7 : Int), .int .i32 (a8 : Int), .int .i32 (a9 : Int), .int .i32 (a10 : Int), .int .i32 (a11 : Int), .int .i32 (p0 : Int)] (fun _ => True) (fun q => q ≠ bb) rfl rfl ⟨rfl, rfl⟩ (fun q hq => ⟨trivial, by simpa [Value.ownBlock] using hq⟩) (fun _ _ => trivial) (Kd.R_drew HRW.out) HBL.out hbs (by rw [HLN.out]; omega) ?_
      intro v1 w1 ho hb hg hat
      obtain ⟨b2, c2', rfl, hb2, hb2l, _⟩ := Kd.R_form ho (by simp)
      have HR1 := Aside0.mk ho
      have HB1' := Aside0.mk hb
      have HG1 := Aside0.mk hg
      have t0 : w1.cell? ⟨g, 0, none⟩ = some (.slice (some ⟨bb, 0, none⟩) N cc) := (blk_cell ((hg.block g hgl (by simpa [Value.ownBlock] using hgb)).trans HI.out.blk) 0).trans (by rw [HN1.out]; rfl)
      have f0 : w1.frozen? ⟨g, 0, none⟩ = false := blk_frozen ((hg.block g hgl (by simpa [Value.ownBlock] using hgb)).trans HI.out.blk) 0
      have HAT := Aside0.mk hat
      clear ho hb hg hat
      refine hK.out _ _ (t0) (fun hHeld => ?_)
      clear hK K
      refine norm_ (a' := ?_) ?_ ?_
      rotate_left
      · show Act.put _ (some 111) _ = _
        simp only [Act.put, List.setIfInBounds_toArray, List.set_cons_zero, List.set_cons_succ, i64_w, i32_w]
        rfl
      refine pure_ (i := 8) (N := some 112) (v := ?_) (a' := ?_) #[true, true, true, true, true, true, true, true, true, false, false] rfl rfl (by kernel_rfl) (fun _ _ _ h => h) (Or.inl ⟨by rfl, ?_⟩) ?_ ?_
      rotate_left
      · intro w'
        go_simp
        with_reducible rfl
      rotate_left
      · simp only [Act.put, List.setIfInBounds_toArray, List.set_cons_zero, List.set_cons_succ, i64_w, i32_w]
        rfl
      refine pure_ (i := 9) (N := some 113) (v := ?_) (a' := ?_) #[true, true, true, true, true, true, true, true, true, true, false] rfl rfl (by kernel_rfl) (fun _ _ _ h => h) (Or.inl ⟨by rfl, ?_⟩) ?_ ?_
      rotate_left
      · intro w'
        go_simp
        with_reducible rfl
      rotate_left
      · simp only [Act.put, List.setIfInBounds_toArray, List.set_cons_zero, List.set_cons_succ, i64_w, i32_w]
        rfl
      refine last_ (i := 10) (N := none) #[true, true, true, true, true, true, true, true, true, true, true] rfl rfl (by kernel_rfl) (by decide) (fun K hK => ?_)
      refine skip_ (w1 := ?_) (by rfl) rfl ?_ ?_
      rotate_left
      · go_simp
        rfl
      generalize hW2 : w1.setCell _ _ = w2
      have HW2 := Aside0.mk hW2
      clear hW2
      refine hK.out _ _ ?_
      clear hK K
      refine done_ (by kernel_rfl) ?_
      have HL2 := Aside0.mk (show (iterL nl (trt0 S k) N h0 ++ [(⟨k, v, h0, [a0, a1, a2, a3, a4, a5, a6, a7, a8, a9, a10, a11], p0⟩ : ND ByteArray)]).length = N + 1 by rw [List.length_append, HLN.out]; rfl)
      have hgblk1 := (HG1.out.block g hgl (by simpa [Value.ownBlock] using hgb)).trans HI.out.blk
      have hxblk1 := (HG1.out.block xb hxl (by simpa [Value.ownBlock] using Ne.symm hbx)).trans HXL.out.heap
      have hw2 := HW2.out
      have hr1 := HR1.out
      rw [HLN.out] at hw2
      rw [HL2.out] at hr1
      have HBK2 := Aside0.mk (show w2.heap[g]? = some (.cells #[.slice (some ⟨b2, 0, none⟩) (N + 1) c2', .int .i64 (most : Int), .int .i64 (S.height : Int), .int .i64 ((lastOf S.order : Nat) : Int)] 95 (0, 0)) by rw [← hw2]; exact blk_set hgblk1 0 _)
      have hb2g : b2 ≠ g := by
        have := Kd.R_ne hr1 hgblk1 (by decide)
        simpa [Value.ownBlock, eq_comm] using this
      have HR2 := Aside0.mk (show Kd.R ndK 101 w2 base (fun _ => True) (.slice (some ⟨b2, 0, none⟩) (N + 1) c2') (iterL nl (trt0 S k) N h0 ++ [⟨k, v, h0, [a0, a1, a2, a3, a4, a5, a6, a7, a8, a9, a10, a11], p0⟩]) by
        rw [← hw2]
        refine ndR_move hr1 fun q hq => Below.heap_setCell _ _ _ _ ?_
        have : b2 = q := by simpa [Value.ownBlock] using hq
        show q ≠ g
        omega)
      have HBL2 := Aside0.mk (show Below base w w2 by rw [← hw2]; exact HB1'.out.setCell ibg _)
      have HK2 := Aside0.mk (show Kept w w2 (fun i => i = g ∨ i = bb) by
        rw [← hw2]
        exact (Kept.of_grown HG1.out HI.out.kept.drew (fun q hq => Or.inl (Or.inr (by simpa [Value.ownBlock, eq_comm] using hq)))).setCell (Or.inl (Or.inl rfl)) _)
      have d5 : w2.cell? ⟨xb, 5, none⟩ = some (.int .i32 (a0 : Int)) := by
        rw [← hw2, cell_ne (Ne.symm hgx)]
        exact (blk_cell hxblk1 5).trans rfl
      have d2 : w2.cell? ⟨g, 2, none⟩ = some (.int .i64 (S.height : Int)) := (blk_cell HBK2.out 2).trans rfl
      have d3 : w2.cell? ⟨g, 3, none⟩ = some (.int .i64 ((lastOf S.order : Nat) : Int)) := (blk_cell HBK2.out 3).trans rfl
      have e2 := blk_frozen HBK2.out 2
      have e3 := blk_frozen HBK2.out 3
      obtain ⟨H, hH⟩ : ∃ H, S.height = H := ⟨_, rfl⟩
      rw [hH] at d2
      have HHH := Aside0.mk hH
      obtain ⟨la, hla⟩ : ∃ la, lastOf S.order = la := ⟨_, rfl⟩
      rw [hla] at d3
      clear hgblk1 hxblk1 hw2 hr1 hH hla t0 f0 r0
      obtain rfl : a0 = n := HSA.out.trans HN.out
      have HPUT := Aside0.mk (putN_eq1 HF.out.1 HIM.out k v HH0.out.1 HH0.out.2 (by rw [HN.out]; have := HZ.out.1; omega))
      rw [HXX.out, HP0.out, HN1.out, HN.out] at HPUT
      have HLA := Aside0.mk (last_put1 (k := k) HF.out.1 v h0 (by rw [HN.out]; have := HZ.out.1; omega))
      have hnl : a0 < N + 1 := by have := HZ.out.2; have := HN1.out; omega
      have hnli : (a0 : Int) < (N : Int) + 1 := by omega
      have hnb : a0 ≤ 1048576 := by have := HZ.out.2; have := HF.out.2.1; omega
      obtain ⟨x, g1, g2, g3, g4⟩ := node_cells HR2.out a0 hnl
      have d17 := g3 17 _ (encN_prev x g2)
      have e17 := g4 17
      have d0 : w2.cell? ⟨g, 0, none⟩ = some (.slice (some ⟨b2, 0, none⟩) (N + 1) c2') := (blk_cell HBK2.out 0).trans rfl
      have HPR := Aside0.mk (ndR_prev (u := N) HR2.out hnl)
      have hbo : b2 = bb ∨ w.heap.size ≤ b2 := by
        rcases HAT.out with h | ⟨q, h, hq⟩
        · left; simpa [Value.ownBlock] using h
        · right
          have e : b2 = q := by simpa [Value.ownBlock] using h
          have := HI.out.kept.1
          have : wr.heap.size ≤ q := hq
          omega
      have HBO := Aside0.mk hbo
      obtain ⟨pv, hpv⟩ : ∃ pv, x.prev = pv := ⟨_, rfl⟩
      rw [hpv] at d17
      clear g1 g2 g3 g4 hpv hbo HRW HXL HI HR1 HG1 HW2 HBL d3 e3
      have hNb1 : (N : Int) ≤ 1048577 := by omega
      go_wp2
      all_goals
        go_ret
        refine ⟨rfl, ?_, (HBL2.out.setCell hb2 _).setCell ibg _, ((HK2.out.setCell (HBO.out.elim (fun e => Or.inl (Or.inr e)) Or.inr) _).setCell (Or.inl (Or.inl rfl)) _).mono (fun q hq => hq.elim Or.inl (fun e => Or.inr ⟨by rw [e]; exact hbb, by rw [e]; exact HBT.out⟩))⟩
        refine ins_done (b2 := b2) (c2 := c2') HF.out.1 HIM.out HFI.out HH0.out.1 HH0.out.2 HPUT.out ibg HMO.out ?_ ?_ HLA.out.symm (hi := max H h0) (by rw [HHH.out])
        · rw [HN1.out]
          have := blk_set ((Below.heap_setCell _ ⟨b2, a0 * 18 + 17, none⟩ (.int .i32 (N : Int)) _ (Ne.symm hb2g)).trans HBK2.out) 2 (.int .i64 ((max H h0 : Nat) : Int))
          first
            | (rw [show max H h0 = H by omega] at this ⊢; exact this)
            | (rw [show max H h0 = h0 by omega] at this ⊢; exact this)
        · rw [HN1.out]
          refine ndR_move HPR.out fun q hq => ?_
          have : b2 = q := by simpa [Value.ownBlock] using hq
          exact Below.heap_setCell _ _ _ _ (by show q ≠ g; omega)
end St

end Go.Proofs.Ytehfcafmdnfamaa.G
