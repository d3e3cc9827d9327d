/- Contracts typed by hand: What Make and May come to, in plain Lean -/
import Derived.Test.YticbfcfpchongaaProg
import Derived.Below
import Derived.Deep.Draws
import Derived.Deep.AppendLies
import Derived.Maps.AppendAt
import Derived.OwnWalk
import Derived.Laws.BytesArg
import Derived.Laws.MakeOwn
import Derived.Laws.OwnMore
import Derived.Deep.OwnRows
import Derived.Tactics
import Derived.Lib.ConvBytes
import Derived.Laws.Slices
import Derived.WalkKit
import Derived.KernelRfl
import Derived.RowKit3
import Derived.Deep.LoopGhost
import Derived.Deep.QuietTactic
import Derived.BigQuiet
import Derived.WideLaws
import Derived.Deep.DeepCutAuto
import Derived.Deep.CutBlock
import Derived.Deep.RegionHeld3
import Derived.Laws.Rows
import Derived.Lib.AppendStr
import Derived.ArgAppend
import Derived.Laws.IdiomCopy
import Derived.OrdersHeld
import Derived.Laws.BitsLemmas
import Derived.RowKit
import Derived.Test.YticbfcfpchongaaWWords
import Derived.Test.YticbfcfpchongaaWLast
import Derived.Test.YticbfcfpchongaaWTab
import Derived.Test.YticbfcfpchongaaWFour
import Derived.Test.YticbfcfpchongaaWQPut
import Derived.Test.YticbfcfpchongaaWApart
import Derived.Test.YticbfcfpchongaaWArr
import Derived.Test.YticbfcfpchongaaWZeros
import Derived.Test.YticbfcfpchongaaWFoot
import Derived.Test.YticbfcfpchongaaWKept
import Derived.Test.YticbfcfpchongaaWShare
import Derived.Test.YticbfcfpchongaaWN
import Derived.Test.YticbfcfpchongaaWFootNe
import Derived.Test.YticbfcfpchongaaWAt
import Derived.Test.YticbfcfpchongaaWEqStruct
import Derived.Test.YticbfcfpchongaaWRepsOne
import Derived.Test.YticbfcfpchongaaWInv
import Derived.Test.YticbfcfpchongaaWInvWords
import Derived.Test.YticbfcfpchongaaWGuard
import Derived.Test.YticbfcfpchongaaWNEv
import Derived.Test.YticbfcfpchongaaWMore
import Derived.Test.YticbfcfpchongaaPureBloom
import Derived.Test.YticbfcfpchongaaGx12
import Derived.Test.YticbfcfpchongaaGx19
namespace Go.Proofs.Yticbfcfpchongaa.G
open Go.RowKit Go.Proofs.YticbfcfpchongaaW.PrintWords Go.Proofs.YticbfcfpchongaaW.PrintLast Go.Proofs.YticbfcfpchongaaW.PrintMore
attribute [local go_sem] max2_int min2_int max_two min_two max_three min_three max_four min_four
set_option linter.unusedVariables false
set_option linter.unusedSimpArgs false

/-! What Make and May come to, in plain Lean -/
def hsh (key : ByteArray) : Int := (bloom_Hash.f (key.size + 8) key 3164544308).getD 0
theorem hsh_all (key : ByteArray) (hs : key.size ≤ 140737488351232) : 0 ≤ hsh key ∧ hsh key < 4294967296 ∧ ∀ k, key.size + 8 ≤ k → bloom_Hash.f k key 3164544308 = some (hsh key) ∧ moraineref12_Hash.f k key 3164544308 = some (hsh key) := by
  obtain ⟨r, r0, r1, h⟩ := hash_all key 3164544308 hs
  have e : hsh key = r := by
    unfold hsh
    rw [(h _ (Nat.le_refl _)).1]
    rfl
  rw [e]
  exact ⟨r0, r1, h⟩
def Small (k : Nat) (l : List ByteArray) : Prop := ∀ key ∈ l, key.size + 8 ≤ k ∧ key.size ≤ 140737488351232
def keyset (n8 : Int) (p : Nat) (key : ByteArray) : List Int := kb n8 (rot (hsh key)) p (hsh key)
def fold (n8 : Int) (p : Nat) (l : List ByteArray) (f : List Int) : List Int := l.foldl (fun f key => putbits n8 (rot (hsh key)) p (hsh key) f) f
theorem keys_all (k : Nat) (n8 : Int) (p : Nat) : ∀ l f, Small k l → bloom_Make.keys k n8 p l f = some (fold n8 p l f)
  | [], f, _ => rfl
  | key :: r, f, h => by
    obtain ⟨h1, h2⟩ := h key (List.mem_cons_self ..)
    obtain ⟨g0, g1, g2⟩ := hsh_all key h2
    simp only [bloom_Make.keys]
    rw [(g2 k h1).1]
    simp only [Option.bind_some]
    rw [if_pos g0, if_pos g1, keys_all k n8 p r _ (fun x hx => h x (List.mem_cons_of_mem _ hx))]
    rfl
theorem fold_all (n8 : Int) (hn : 0 < n8) (p : Nat) : ∀ l f, Byt f → n8 ≤ 8 * (f.length : Int) →
    (fold n8 p l f).length = f.length ∧ Byt (fold n8 p l f) ∧ (∀ c, 0 ≤ c → (bitAt (fold n8 p l f) c = true ↔ bitAt f c = true ∨ ∃ key ∈ l, c ∈ keyset n8 p key)) ∧ (∀ j, 0 ≤ j → n8 ≤ 8 * j → rd (fold n8 p l f) j = rd f j)
  | [], f, hf, hl => by simp [fold, hf]
  | key :: r, f, hf, hl => by
    obtain ⟨i1, i2, i3, i4⟩ := putbits_all n8 (rot (hsh key)) hn p (hsh key) f hf hl
    obtain ⟨j1, j2, j3, j4⟩ := fold_all n8 hn p r (putbits n8 (rot (hsh key)) p (hsh key) f) i2 (by rw [i1]; exact hl)
    have e : fold n8 p (key :: r) f = fold n8 p r (putbits n8 (rot (hsh key)) p (hsh key) f) := rfl
    rw [e]
    refine ⟨by rw [j1, i1], j2, fun c hc => ?_, fun j hj hj2 => by rw [j4 j hj hj2, i4 j hj hj2]⟩
    rw [j3 c hc, i3 c hc]
    simp only [Bool.or_eq_true, decide_eq_true_eq, List.mem_cons, keyset]
    constructor
    · rintro ((h | h) | ⟨x, hx, h⟩)
      · exact Or.inl h
      · exact Or.inr ⟨key, Or.inl rfl, h⟩
      · exact Or.inr ⟨x, Or.inr hx, h⟩
    · rintro (h | ⟨x, (rfl | hx), h⟩)
      · exact Or.inl (Or.inl h)
      · exact Or.inl (Or.inr h)
      · exact Or.inr ⟨x, hx, h⟩
def prb (a : Int) : Int := mn (mx (wrap64 (Int.tdiv (wrap64 (a * 69)) 100)) 1) 30
theorem prb_rng (a : Int) : 1 ≤ prb a ∧ prb a ≤ 30 := by
  unfold prb
  generalize wrap64 (Int.tdiv (wrap64 (a * 69)) 100) = z
  unfold mn mx
  split <;> split <;> omega
theorem probes_good (a : Int) (h : 1 ≤ a ∧ a ≤ 64) : bloom_Probes.f a = some (prb a, 0) := by
  unfold bloom_Probes.f prb
  rw [if_neg (by omega), if_neg (by omega)]
theorem probes_bad (a : Int) (h : ¬ (1 ≤ a ∧ a ≤ 64)) : bloom_Probes.f a = some (0, 2) := by
  unfold bloom_Probes.f
  by_cases h1 : a < 1
  · rw [if_pos h1]
  · rw [if_neg h1, if_pos (by omega)]
theorem bytes_rng (n : Nat) (a : Int) (ha : 1 ≤ a ∧ a ≤ 64) (hl : n ≤ 1048576) : ∃ B : Nat, bloom_Make.bytes n a = B ∧ 8 ≤ B ∧ B ≤ 8388609 := by
  have m0 : 0 ≤ (n : Int) * a := Int.mul_nonneg (by omega) (by omega)
  have m1 : (n : Int) * a ≤ 1048576 * 64 := Int.mul_le_mul (by omega) ha.2 (by omega) (by omega)
  unfold bloom_Make.bytes
  have q : 64 ≤ mx ((n : Int) * a) 64 ∧ mx ((n : Int) * a) 64 ≤ 67108864 := by unfold mx; split <;> omega
  generalize mx ((n : Int) * a) 64 = z at *
  exact ⟨((z + 7) / 8).toNat, by omega, by omega, by omega⟩
def filt (l : List ByteArray) (a : Int) : List Int := fold (8 * bloom_Make.bytes l.length a) (prb a).toNat l ((List.replicate (bloom_Make.bytes l.length a + 1).toNat 0).set (bloom_Make.bytes l.length a).toNat (prb a % 256))
theorem make_good (k : Nat) (l : List ByteArray) (a : Int) (ha : 1 ≤ a ∧ a ≤ 64) (hl : l.length ≤ 1048576) (hk : Small k l) : bloom_Make.f k l a = some (filt l a, 0) := by
  have hp := prb_rng a
  unfold bloom_Make.f
  rw [probes_good a ha]
  simp only [Option.bind_some]
  rw [if_pos trivial, if_pos ⟨ha.1, ha.2, by omega, by omega, hl⟩, keys_all _ _ _ _ _ hk]
  rfl
theorem make_bad (k : Nat) (l : List ByteArray) (a : Int) (ha : ¬ (1 ≤ a ∧ a ≤ 64)) : bloom_Make.f k l a = some ([], 2) := by
  unfold bloom_Make.f
  rw [probes_bad a ha]
  simp only [Option.bind_some]
  rw [if_neg (by omega)]
theorem byt_zero (n : Nat) : Byt (List.replicate n 0) := by
  intro x hx
  rw [List.mem_replicate] at hx
  omega
theorem filt_all (l : List ByteArray) (a : Int) (ha : 1 ≤ a ∧ a ≤ 64) (hl : l.length ≤ 1048576) : ∃ B : Nat, bloom_Make.bytes l.length a = B ∧ 8 ≤ B ∧ B ≤ 8388609 ∧ (filt l a).length = B + 1 ∧ Byt (filt l a) ∧ rd (filt l a) B = prb a ∧
    ∀ c, 0 ≤ c → c < 8 * (B : Int) → (bitAt (filt l a) c = true ↔ ∃ key ∈ l, c ∈ keyset (8 * (B : Int)) (prb a).toNat key) := by
  obtain ⟨B, hB, b0, b1⟩ := bytes_rng l.length a ha hl
  have hp := prb_rng a
  refine ⟨B, hB, b0, b1, ?_⟩
  unfold filt
  rw [hB, show ((B : Int) + 1).toNat = B + 1 by omega, Int.toNat_natCast]
  have hb : Byt ((List.replicate (B + 1) (0 : Int)).set B (prb a % 256)) := byt_set (byt_zero _) _ (by omega) (by omega)
  obtain ⟨j1, j2, j3, j4⟩ := fold_all (8 * (B : Int)) (by omega) (prb a).toNat l _ hb (by rw [List.length_set, List.length_replicate]; omega)
  have hset : ∀ j : Int, 0 ≤ j → rd ((List.replicate (B + 1) (0 : Int)).set B (prb a % 256)) j = if (B : Int) = j then prb a % 256 else rd (List.replicate (B + 1) (0 : Int)) j := by
    intro j hj
    have := rd_set (List.replicate (B + 1) (0 : Int)) B j (prb a % 256) (by omega) (by rw [List.length_replicate]; omega) hj
    rw [Int.toNat_natCast] at this
    exact this
  have hz : ∀ j : Int, rd (List.replicate (B + 1) (0 : Int)) j = 0 := by
    intro j
    unfold rd
    rw [List.getD_eq_getElem?_getD, List.getElem?_replicate]
    split <;> rfl
  refine ⟨by rw [j1, List.length_set, List.length_replicate], j2, ?_, fun c hc hc2 => ?_⟩
  · rw [j4 B (by omega) (by omega), hset B (by omega), if_pos rfl]
    omega
  · rw [j3 c hc]
    have : bitAt ((List.replicate (B + 1) (0 : Int)).set B (prb a % 256)) c = false := by
      unfold bitAt
      rw [hset _ (by omega), if_neg (by omega), hz, getv_zero]
    rw [this]
    simp
theorem filt_ext {f g : List Int} (B : Nat) (hf : f.length = B + 1) (hg : g.length = B + 1) (bf : Byt f) (bg : Byt g) (h : rd f B = rd g B) (hb : ∀ c, 0 ≤ c → c < 8 * (B : Int) → (bitAt f c = true ↔ bitAt g c = true)) : f = g := by
  apply List.ext_getElem (by omega)
  intro i hi hi2
  have e1 : rd f (i : Int) = f[i] := by
    unfold rd
    rw [Int.toNat_natCast, List.getD_eq_getElem?_getD, List.getElem?_eq_getElem hi]
    rfl
  have e2 : rd g (i : Int) = g[i] := by
    unfold rd
    rw [Int.toNat_natCast, List.getD_eq_getElem?_getD, List.getElem?_eq_getElem hi2]
    rfl
  rw [← e1, ← e2]
  by_cases e : i = B
  · subst e
    exact h
  · have r1 := rd_rng bf (i : Int)
    have r2 := rd_rng bg (i : Int)
    refine getv_ext _ _ r1.1 r1.2 r2.1 r2.2 fun j hj => ?_
    have := hb (8 * (i : Int) + j) (by omega) (by omega)
    unfold bitAt at this
    rw [show (8 * (i : Int) + j) / 8 = (i : Int) by omega, ← Bool.eq_iff_iff] at this
    rw [getv_test _ _ r1.1 r1.2, getv_test _ _ r2.1 r2.2] at this ⊢
    rw [show (8 * (i : Int) + (j : Int)) % 8 = (j : Int) % 8 by omega] at this
    exact this
theorem right_good (f : List Int) (B : Nat) (hf : f.length = B + 1) (b0 : 1 ≤ B) (b1 : B ≤ 140737488351232) (h0 : 1 ≤ rd f B) (h1 : rd f B ≤ 30) : bloom_right.f f = some true := by
  have e : wrap64 ((f.length : Int) - 1) = B := by unfold wrap64; omega
  unfold bloom_right.f
  rw [e, if_pos (by omega), if_pos (by omega), if_pos (by omega), if_pos h0, decide_eq_true h1]
theorem may_good (k : Nat) (f : List Int) (B : Nat) (key : ByteArray) (hf : f.length = B + 1) (b0 : 1 ≤ B) (b1 : B ≤ 268435455) (h0 : 1 ≤ rd f B) (h1 : rd f B ≤ 30) (hk : key.size + 8 ≤ k) (hs : key.size ≤ 140737488351232) :
    bloom_May.f k f key = some ((keyset (8 * (B : Int)) (rd f B).toNat key).all (bitAt f)) := by
  obtain ⟨g0, g1, g2⟩ := hsh_all key hs
  unfold bloom_May.f
  rw [right_good f B hf b0 (by omega) h0 h1]
  simp only [Option.bind_some]
  rw [if_pos trivial, show f.length - 1 = B by omega, if_pos ⟨by omega, by omega, h0, h1⟩, (g2 k hk).1]
  simp only [Option.bind_some]
  rw [if_pos g0, if_pos g1, allbits_kb]
  rfl
theorem works_good (k : Nat) (hk : 9 ≤ k) : morainelaw12_works.f k = some true := by
  have hm := make_good k [] 10 (by omega) (by simp) (by intro x hx; cases hx)
  have hf : filt [] 10 = [0, 0, 0, 0, 0, 0, 0, 0, 6] := by decide +kernel
  have hall := filt_all [] 10 (by omega) (by simp)
  have hb : bloom_Make.bytes ([] : List ByteArray).length 10 = 8 := by decide +kernel
  obtain ⟨B, e, _, _, hl, _, hr, hc⟩ := hall
  have e8 : B = 8 := by omega
  subst e8
  have hp : prb 10 = 6 := by decide +kernel
  have z : (⟨#[107]⟩ : ByteArray).size = 1 := rfl
  have hmay := may_good k (filt [] 10) 8 (⟨#[107]⟩ : ByteArray) hl (by omega) (by omega) (by rw [hr, hp]; omega) (by rw [hr, hp]; omega) (by omega) (by omega)
  rw [hr, hp] at hmay
  have hfalse : (keyset (8 * ((8 : Nat) : Int)) (6 : Int).toNat (⟨#[107]⟩ : ByteArray)).all (bitAt (filt [] 10)) = false := by
    have h6 : (6 : Int).toNat = 5 + 1 := rfl
    unfold keyset
    rw [h6]
    simp only [kb, List.all_cons]
    have m0 : 0 ≤ hsh (⟨#[107]⟩ : ByteArray) % (8 * ((8 : Nat) : Int)) := Int.emod_nonneg _ (by omega)
    have m1 : hsh (⟨#[107]⟩ : ByteArray) % (8 * ((8 : Nat) : Int)) < 8 * ((8 : Nat) : Int) := Int.emod_lt_of_pos _ (by omega)
    have := hc _ m0 m1
    simp only [List.not_mem_nil, false_and, exists_false, iff_false, Bool.not_eq_true] at this
    rw [this]
    rfl
  rw [hfalse] at hmay
  unfold morainelaw12_works.f
  rw [hm]
  simp only [Option.bind_some]
  rw [if_pos (by rw [hf]; decide +kernel), if_pos trivial, hmay]
  rfl

end Go.Proofs.Yticbfcfpchongaa.G
