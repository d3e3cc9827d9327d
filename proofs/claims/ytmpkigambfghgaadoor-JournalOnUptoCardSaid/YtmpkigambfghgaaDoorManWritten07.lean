/- Contracts typed by hand: journal: NewWriter, Size, Cost by hand; the law's file of records -/
import Derived.Test.YtmpkigambfghgaaDoorProg
import Derived.Below
import Derived.Deep.Draws
import Derived.Deep.AppendLies
import Derived.Maps.AppendAt
import Derived.OwnWalk
import Derived.Laws.BytesArg
import Derived.Laws.MakeOwn
import Derived.Laws.OwnMore
import Derived.Deep.OwnRows
import Derived.Tactics
import Derived.Lib.ConvBytes
import Derived.Laws.Slices
import Derived.WalkKit
import Derived.KernelRfl
import Derived.RowKit3
import Derived.Deep.LoopGhost
import Derived.Deep.QuietTactic
import Derived.BigQuiet
import Derived.WideLaws
import Derived.Deep.DeepCutAuto
import Derived.Deep.CutBlock
import Derived.Deep.RegionHeld3
import Derived.Laws.Rows
import Derived.Lib.AppendStr
import Derived.ArgAppend
import Derived.Laws.IdiomCopy
import Derived.OrdersHeld
import Derived.Laws.BitsLemmas
import Derived.RowKit
import Derived.Test.YtmpkigambfghgaaDoorWWords
import Derived.Test.YtmpkigambfghgaaDoorWLast
import Derived.Test.YtmpkigambfghgaaDoorWTab
import Derived.Test.YtmpkigambfghgaaDoorWFour
import Derived.Test.YtmpkigambfghgaaDoorWQPut
import Derived.Test.YtmpkigambfghgaaDoorWApart
import Derived.Test.YtmpkigambfghgaaDoorWArr
import Derived.Test.YtmpkigambfghgaaDoorWZeros
import Derived.Test.YtmpkigambfghgaaDoorWFoot
import Derived.Test.YtmpkigambfghgaaDoorWKept
import Derived.Test.YtmpkigambfghgaaDoorWShare
import Derived.Test.YtmpkigambfghgaaDoorWN
import Derived.Test.YtmpkigambfghgaaDoorWFootNe
import Derived.Test.YtmpkigambfghgaaDoorWAt
import Derived.Test.YtmpkigambfghgaaDoorWEqStruct
import Derived.Test.YtmpkigambfghgaaDoorWRepsOne
import Derived.Test.YtmpkigambfghgaaDoorWInv
import Derived.Test.YtmpkigambfghgaaDoorWInvWords
import Derived.Test.YtmpkigambfghgaaDoorWGuard
import Derived.Test.YtmpkigambfghgaaDoorWNEv
import Derived.Test.YtmpkigambfghgaaDoorWMore
import Derived.Test.YtmpkigambfghgaaDoorManAdd07
import Derived.RangeFuncRecord
import Derived.Test.YtmpkigambfghgaaDoorGx12
namespace Go.Proofs.YtmpkigambfghgaaDoor.G
open Go.RowKit Go.Proofs.YtmpkigambfghgaaDoorW.PrintWords Go.Proofs.YtmpkigambfghgaaDoorW.PrintLast Go.Proofs.YtmpkigambfghgaaDoorW.PrintMore
attribute [local go_sem] max2_int min2_int max_two min_two max_three min_three max_four min_four
set_option linter.unusedVariables false
set_option linter.unusedSimpArgs false

/-! journal: NewWriter, Size, Cost by hand; the law's file of records -/
def hdK : Kd (Option Addr × Nat × Nat) := Kd.scalar (fun x => Value.slice x.1 x.2.1 x.2.2) (fun _ => rfl)
def hdr (hs : List (Option Addr × Nat × Nat)) (i : Nat) : Option Addr × Nat × Nat := hs.getD i (none, 0, 0)
def rec (rs : List (List Int)) (i : Nat) : List Int := rs.getD i []
/-- headers of records that can be read -/
def Heads (w : World) (rs : List (List Int)) (hs : List (Option Addr × Nat × Nat)) : Prop :=
  hs.length = rs.length ∧ ∀ i, i < rs.length → (hdr hs i).2.1 = (rec rs i).length ∧ (rec rs i).length ≤ (hdr hs i).2.2 ∧ Kd.C (Kd.int .u8) w (hdr hs i).1 (rec rs i).length (rec rs i)
theorem Heads.below {w w1 : World} {rs hs} (h : Heads w rs hs) (hb : Below w.heap.size w w1) : Heads w1 rs hs := ⟨h.1, fun i hi => ⟨(h.2 i hi).1, (h.2 i hi).2.1, Kd.C_below (h.2 i hi).2.2 hb⟩⟩
theorem rec_get {rs : List (List Int)} {i : Nat} (h : i < rs.length) : rs[i]? = some (rec rs i) := by unfold rec; rw [List.getD_eq_getElem?_getD, List.getElem?_eq_getElem h]; rfl
theorem hdr_get {hs : List (Option Addr × Nat × Nat)} {i : Nat} (h : i < hs.length) : hs[i]? = some (hdr hs i) := by unfold hdr; rw [List.getD_eq_getElem?_getD, List.getElem?_eq_getElem h]; rfl
theorem heads_of {w : World} {A : Option Addr} {rs : List (List Int)} {e : Nat} (h : Kd.C (Kd.slice e (Kd.int .u8)) w A rs.length rs) : ∃ hs, Heads w rs hs ∧ hdK.C w A rs.length hs := by
  have key : ∀ i, ∃ x : Option Addr × Nat × Nat, i < rs.length → (∃ ad, A = some ad ∧ w.cell? (ad.add i) = some (.slice x.1 x.2.1 x.2.2)) ∧ x.2.1 = (rec rs i).length ∧ (rec rs i).length ≤ x.2.2 ∧ Kd.C (Kd.int .u8) w x.1 (rec rs i).length (rec rs i) := by
    intro i
    by_cases hi : i < rs.length
    · obtain ⟨ad, hA, hc⟩ := h.2.2 (by omega)
      obtain ⟨c, hl, ⟨B, d, hcs, hd, hC⟩, hcell⟩ := hc i _ (rec_get hi)
      subst hcs
      refine ⟨(B, (rec rs i).length, d), fun _ => ⟨⟨ad, hA, ?_⟩, rfl, hd, hC⟩⟩
      have h3 := hcell 0 _ rfl
      have e3 : i * (Kd.slice e (Kd.int .u8)).sz + 0 = i := by show i * 1 + 0 = i; omega
      rw [e3] at h3
      exact h3
    · exact ⟨(none, 0, 0), fun h' => absurd h' hi⟩
  have hf := Classical.axiomOfChoice key
  obtain ⟨f, hf⟩ := hf
  have hget : ∀ i, i < rs.length → hdr ((List.range rs.length).map f) i = f i := by
    intro i hi
    unfold hdr
    rw [List.getD_eq_getElem?_getD, List.getElem?_map, List.getElem?_range hi]
    rfl
  refine ⟨(List.range rs.length).map f, ⟨by simp, fun i hi => ?_⟩, by simp, h.2.1, fun hn => ?_⟩
  · rw [hget i hi]
    exact (hf i hi).2
  · obtain ⟨ad, hA, _⟩ := h.2.2 hn
    refine ⟨ad, hA, fun i p hp => ?_⟩
    have hi : i < rs.length := by have := (List.getElem?_eq_some_iff.1 hp).1; simpa using this
    have hp2 : p = f i := by
      rw [List.getElem?_map, List.getElem?_range hi] at hp
      exact (Option.some.inj hp).symm
    subst hp2
    refine ⟨[.slice (f i).1 (f i).2.1 (f i).2.2], rfl, rfl, fun j u hu => ?_⟩
    obtain ⟨ad2, hA2, hc2⟩ := (hf i hi).1
    have had : ad2 = ad := Option.some.inj (hA2.symm.trans hA)
    subst had
    cases j with
    | zero =>
      have hu2 : Value.slice (f i).1 (f i).2.1 (f i).2.2 = u := by simpa using hu
      rw [← hu2]
      show w.cell? (ad2.add (i * 1 + 0)) = _
      rw [Nat.mul_one, Nat.add_zero]
      exact hc2
    | succ j => simp at hu
theorem hd_at {w : World} {A : Option Addr} {n : Nat} {hs : List (Option Addr × Nat × Nat)} (h : hdK.C w A n hs) (i : Nat) (hi : i < n) : ∃ ad, A = some ad ∧ w.cell? (ad.add i) = some (.slice (hdr hs i).1 (hdr hs i).2.1 (hdr hs i).2.2) := by
  obtain ⟨ad, hA, hc⟩ := h.2.2 (by omega)
  obtain ⟨c, hl, hK, hcell⟩ := hc i _ (hdr_get (by have := h.1; omega))
  have hK2 : c = [.slice (hdr hs i).1 (hdr hs i).2.1 (hdr hs i).2.2] := hK
  subst hK2
  refine ⟨ad, hA, ?_⟩
  have h3 := hcell 0 _ rfl
  have e3 : i * hdK.sz + 0 = i := by show i * 1 + 0 = i; omega
  rw [e3] at h3
  exact h3
/-! the file -/
def fileOf (blk : Nat) (rs : List (List Int)) : List Int := rs.foldl (fun f r => f ++ addR blk (f.length % blk) r) []
theorem fileOf_snoc (blk : Nat) (rs : List (List Int)) (r : List Int) : fileOf blk (rs ++ [r]) = fileOf blk rs ++ addR blk ((fileOf blk rs).length % blk) r := by unfold fileOf; rw [List.foldl_append]; rfl
def endsOf (blk : Nat) (rs : List (List Int)) : List Int := (List.range rs.length).map fun i => ((fileOf blk (rs.take (i + 1))).length : Int)
theorem take_snoc {rs : List (List Int)} {k : Nat} (h : k < rs.length) : rs.take (k + 1) = rs.take k ++ [rec rs k] := by
  rw [List.take_add_one, rec_get h]; rfl
theorem takeh_snoc {hs : List (Option Addr × Nat × Nat)} {k : Nat} (h : k < hs.length) : hs.take (k + 1) = hs.take k ++ [hdr hs k] := by
  rw [List.take_add_one, hdr_get h]; rfl
theorem endsOf_snoc (blk : Nat) (rs : List (List Int)) (k : Nat) (h : k < rs.length) : endsOf blk (rs.take (k + 1)) = endsOf blk (rs.take k) ++ [((fileOf blk (rs.take (k + 1))).length : Int)] := by
  unfold endsOf
  have h1 : (rs.take (k + 1)).length = k + 1 := by rw [List.length_take]; omega
  have h2 : (rs.take k).length = k := by rw [List.length_take]; omega
  rw [h1, h2, List.range_succ, List.map_append]
  congr 1
  · apply List.map_congr_left
    intro i hi
    have hi := List.mem_range.1 hi
    rw [List.take_take, List.take_take, show min (i + 1) (k + 1) = i + 1 by omega, show min (i + 1) k = i + 1 by omega]
  · simp [List.take_take]
/-- how many bytes records have, each with one more -/
def bulk (rs : List (List Int)) : Nat := (rs.map fun r => r.length + 1).sum
theorem bulk_append (a b : List (List Int)) : bulk (a ++ b) = bulk a + bulk b := by simp [bulk]
theorem bulk_take (rs : List (List Int)) (k : Nat) : bulk (rs.take k) ≤ bulk rs := by
  have := bulk_append (rs.take k) (rs.drop k)
  rw [List.take_append_drop] at this
  omega
theorem bulk_rec {rs : List (List Int)} {k : Nat} (h : k < rs.length) : (rec rs k).length + 1 ≤ bulk rs := by
  have h1 := bulk_take rs (k + 1)
  rw [take_snoc h, bulk_append] at h1
  have : bulk [rec rs k] = (rec rs k).length + 1 := by simp [bulk]
  omega
theorem bulk_len (rs : List (List Int)) : rs.length ≤ bulk rs := by
  induction rs with
  | nil => simp [bulk]
  | cons r rs ih => have := bulk_append [r] rs; have h1 : bulk [r] = r.length + 1 := by simp [bulk]
                    simp only [List.cons_append, List.nil_append] at this; simp; omega
theorem fileOf_len (blk : Nat) (h : 32 ≤ blk) (rs : List (List Int)) (k : Nat) (hk : k ≤ rs.length) : (fileOf blk (rs.take k)).length ≤ 23 * bulk (rs.take k) := by
  induction k with
  | zero => simp [fileOf, bulk]
  | succ k ih =>
    have ih := ih (by omega)
    rw [take_snoc (by omega), fileOf_snoc, bulk_append, List.length_append, addR_len]
    have h1 := costR_le blk h ((fileOf blk (rs.take k)).length % blk) (rec rs k).length
    have h2 : bulk [rec rs k] = (rec rs k).length + 1 := by simp [bulk]
    omega
theorem cost_ge (blk : Nat) (h : 32 ≤ blk) : ∀ (k p n : Nat), Enough blk k p n → 7 + n ≤ costJ blk k p n
  | 0, p, n, he => by unfold Enough at he; split at he <;> omega
  | k + 1, p, n, he => by
    unfold costJ
    split
    · omega
    · rename_i hn
      have := cost_ge blk h k 0 (n - mostJ blk p) (he.next h hn)
      omega
theorem costR_ge (blk : Nat) (h : 32 ≤ blk) (p n : Nat) : 7 + n ≤ costR blk p n := cost_ge blk h _ _ _ (enough_self _ _ _)
theorem addR_byt (blk p : Nat) {r : List Int} (h : Byt r) : Byt (addR blk p r) := add_byt _ _ _ _ _ h
theorem fileOf_byt (blk : Nat) (rs : List (List Int)) (h : ∀ r ∈ rs, Byt r) : Byt (fileOf blk rs) := by
  have key : ∀ (rs : List (List Int)) (f : List Int), Byt f → (∀ r ∈ rs, Byt r) → Byt (rs.foldl (fun f r => f ++ addR blk (f.length % blk) r) f) := by
    intro rs
    induction rs with
    | nil => intro f hf _; exact hf
    | cons r rs ih => intro f hf hr; exact ih _ (hf.append (addR_byt _ _ (hr r List.mem_cons_self))) (fun x hx => hr x (List.mem_cons_of_mem _ hx))
  exact key rs [] Byt.nil h
/-! the walks -/
theorem wr_size (g : Nat) (blk size : Int) (hb : blk ≠ 0) (w : World) (h : WrAt w g blk size) :
    Calls Tryd.prog 11 #[.pointer (some ⟨g, 0, none⟩)] w fun e w' => e = .returned (.int .i64 size) ∧ w = w' := by
  have H := Aside0.mk h
  have h1 := h.cells.2.1
  clear h
  go_enter Tryd.func11, Tryd.ntmps11
  go_wp2_with fail
  (with_reducible refine (wr_none g _ _ hb _ H.out).mono ?_)
  rintro e w1 ⟨rfl, rfl⟩
  go_wp2
  go_ret
  exact ⟨rfl, rfl⟩
set_option maxHeartbeats 4000000 in
set_option maxRecDepth 100000 in
theorem wr_cost (g blk : Nat) (size n : Nat) (w : World) (h1 : 32 ≤ blk) (h2 : blk ≤ 32768) (hs : size ≤ 4611686018427387904 + 1099511627776) (h : WrAt w g (blk : Int) (size : Int)) (hn : n ≤ 2097152) :
    Calls Tryd.prog 12 #[.pointer (some ⟨g, 0, none⟩), .int .i64 (n : Int)] w fun e w' => e = .returned (.int .i64 ((costR blk (size % blk) n : Nat) : Int)) ∧ Below w.heap.size w w' := by
  have H := Aside0.mk h
  have HLEN := Aside0.mk (costR_le blk h1 (size % blk) n)
  obtain ⟨L, hL⟩ : ∃ L, costR blk (size % blk) n = L := ⟨_, rfl⟩
  have HLL := Aside0.mk hL
  rw [hL] at HLEN ⊢
  have hs0 := h.cells.1
  have hs1 := h.cells.2.1
  have hc0 : decide ((n : Int) < 0) = false := decide_eq_false (by omega)
  have hc1 : decide ((n : Int) > 2097152) = false := decide_eq_false (by omega)
  have hc2 : decide (2097152 < n) = false := decide_eq_false (by omega)
  have hmod : (size : Int) % (blk : Int) = ((size % blk : Nat) : Int) := by omega
  have hblk0 : ((blk : Int) == 0) = false := by simp; omega
  have hN := Aside0.mk hn
  clear h hL
  go_enter Tryd.func12, Tryd.ntmps12
  go_wp2_with fail
  (with_reducible refine (wr_none g _ _ (by omega) _ H.out).mono ?_)
  rintro e w1 ⟨rfl, rfl⟩
  go_wp2_with fail
  go_quiet (fail)
  all_goals go_wp2
  go_loopg [1, 5, 6] (n + 2) (fun kq v1 v5 v6 wr => ∃ (n' s p : Nat), v1 = .int .i64 (n' : Int) ∧ v5 = .int .i64 (s : Int) ∧ v6 = .int .i64 (p : Int) ∧ p < blk ∧ n' ≤ 2097152 ∧ s ≤ 5000000 ∧ Aside0 (Enough blk kq p n') ∧ Aside0 (s + costJ blk kq p n' = L) ∧ Aside0 (Below w.heap.size w wr))
  case atStart => exact ⟨n, 0, size % blk, rfl, rfl, by rw [hmod], Nat.mod_lt _ (by omega), hn, by omega, ⟨enough_self _ _ _⟩, ⟨by rw [Nat.zero_add]; exact HLL.out⟩, ⟨pw_below_drewN (Below.refl _ _) _⟩⟩
  case round =>
    clear hs0 hs1 hc0 hc1 hc2 hmod
    obtain ⟨n', s, p, rfl, rfl, rfl, hp, hrl, hsl, HE, HOUT, HB⟩ := hrel
    clear hn
    cases gk with
    | zero => exact absurd HE.out (by unfold Enough; split <;> omega)
    | succ k =>
      have hpm := pad_most h1 p
      obtain ⟨pad, hpad⟩ : ∃ pad, padJ blk p = pad := ⟨_, rfl⟩
      obtain ⟨most, hmost⟩ : ∃ most, mostJ blk p = most := ⟨_, rfl⟩
      have HROOM := Aside0.mk (wr_room g blk p size hp h1 h2 wr (H.out.below HB.out))
      have HMD := Aside0.mk (mod_next blk p hp h1)
      rw [hpad, hmost] at hpm HROOM HMD
      have hout := HOUT.out
      unfold costJ at hout
      rw [hpad, hmost] at hout
      have HNXT := Aside0.mk (fun h3 => hmost ▸ HE.out.next h1 (hmost ▸ h3) : ¬ n' ≤ most → Enough blk k 0 (n' - most))
      have hpad6 := hpm.1
      have hmostb := hpm.2.2
      clear hpad hmost hpm HOUT
      have hsb : s + pad + 7 + most ≤ 5000000 + 40000 := by omega
      by_cases hlast : n' ≤ most
      · rw [if_pos hlast] at hout
        have HOUT := Aside0.mk hout
        have hmn1 : (if (n' : Int) < (most : Int) then (n' : Int) else (most : Int)) = (n' : Int) := by split <;> omega
        have hmn2 : (if n' < most then (n' : Int) else (most : Int)) = (n' : Int) := by split <;> omega
        clear hout
        go_wp2_with fail
        (with_reducible refine HROOM.out.mono ?_)
        rintro e w2 ⟨rfl, hd⟩
        have HB2 := Aside0.mk (below_step HB.out hd.below)
        clear hd
        go_wp2
        go_ret
        exact ⟨by rw [← HOUT.out]; simp, HB2.out⟩
      · rw [if_neg hlast] at hout
        have HOUT := Aside0.mk hout
        have hle := HLEN.out
        have hne1 : ((most : Int) == (n' : Int)) = false := by simp; omega
        have hne2 : (most == n') = false := by simp; omega
        have hmn1 : (if (n' : Int) < (most : Int) then (n' : Int) else (most : Int)) = (most : Int) := by split <;> omega
        have hmn2 : (if n' < most then (n' : Int) else (most : Int)) = (most : Int) := by split <;> omega
        have hs2 : s + pad + 7 + most ≤ 5000000 := by have := hN.out; omega
        have hmd : ((p : Int) + (pad : Int) + 7 + (most : Int)) % (blk : Int) = ((0 : Nat) : Int) := by rw [show (p : Int) + (pad : Int) + 7 + (most : Int) = ((p + pad + 7 + most : Nat) : Int) by omega, ← Int.natCast_emod, HMD.out]
        clear hout hle
        go_wp2_with fail
        (with_reducible refine HROOM.out.mono ?_)
        rintro e w2 ⟨rfl, hd⟩
        have HB2 := Aside0.mk (below_step HB.out hd.below)
        have hx0 := (H.out.below HB2.out).cells.1
        clear hd
        go_wp2
        go_roundg k
        case measure => omega
        case rel => exact ⟨n' - most, s + (pad + 7 + most), 0, by rw [show ((n' - most : Nat) : Int) = (n' : Int) - (most : Int) by omega], by rw [show ((s + (pad + 7 + most) : Nat) : Int) = (s : Int) + ((pad : Int) + 7 + (most : Int)) by omega], by rw [hmd], by omega, by omega, by omega, ⟨HNXT.out hlast⟩, ⟨by have := HOUT.out; omega⟩, HB2⟩
theorem new_writer (blk : Nat) (size : Int) (w : World) (h1 : 32 ≤ blk) (h2 : blk ≤ 32768) (hs0 : 0 ≤ size) :
    Calls Tryd.prog 13 #[.int .i64 (blk : Int), .int .i64 size] w fun e w' => ∃ g, e = .returned (.tuple #[.pointer (some ⟨g, 0, none⟩), .int .i64 0]) ∧ WrAt w' g (blk : Int) size ∧ w.heap.size ≤ g ∧ Below w.heap.size w w' := by
  have HI := Aside0.mk (journal_isBlock.calls (blk : Int) true w (by unfold journal_isBlock.f; rw [if_pos (by omega)]; simp; omega))
  have hc : decide (size < 0) = false := decide_eq_false (by omega)
  go_enter Tryd.func13, Tryd.ntmps13
  go_wp2_with fail
  (with_reducible refine HI.out.mono ?_)
  rintro e w1 ⟨rfl, hd⟩
  have HB := Aside0.mk hd.below
  clear hd
  go_wp2
  go_ret2
  exact ⟨w1.heap.size, rfl, World.alloc_heap_new w1 _, HB.out.size, below_alloc HB.out _⟩

end Go.Proofs.YtmpkigambfghgaaDoor.G
