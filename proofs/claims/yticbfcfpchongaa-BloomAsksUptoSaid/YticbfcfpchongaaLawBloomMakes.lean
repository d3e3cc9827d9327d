/- Contracts typed by hand: BloomMakes holds of every input within the form's reach: the reference's filter is the program's -/
import Derived.Test.YticbfcfpchongaaProg
import Derived.Below
import Derived.Deep.Draws
import Derived.Deep.AppendLies
import Derived.Maps.AppendAt
import Derived.OwnWalk
import Derived.Laws.BytesArg
import Derived.Laws.MakeOwn
import Derived.Laws.OwnMore
import Derived.Deep.OwnRows
import Derived.Tactics
import Derived.Lib.ConvBytes
import Derived.Laws.Slices
import Derived.WalkKit
import Derived.KernelRfl
import Derived.RowKit3
import Derived.Deep.LoopGhost
import Derived.Deep.QuietTactic
import Derived.BigQuiet
import Derived.WideLaws
import Derived.Deep.DeepCutAuto
import Derived.Deep.CutBlock
import Derived.Deep.RegionHeld3
import Derived.Laws.Rows
import Derived.Lib.AppendStr
import Derived.ArgAppend
import Derived.Laws.IdiomCopy
import Derived.OrdersHeld
import Derived.Laws.BitsLemmas
import Derived.RowKit
import Derived.Test.YticbfcfpchongaaWWords
import Derived.Test.YticbfcfpchongaaWLast
import Derived.Test.YticbfcfpchongaaWTab
import Derived.Test.YticbfcfpchongaaWFour
import Derived.Test.YticbfcfpchongaaWQPut
import Derived.Test.YticbfcfpchongaaWApart
import Derived.Test.YticbfcfpchongaaWArr
import Derived.Test.YticbfcfpchongaaWZeros
import Derived.Test.YticbfcfpchongaaWFoot
import Derived.Test.YticbfcfpchongaaWKept
import Derived.Test.YticbfcfpchongaaWShare
import Derived.Test.YticbfcfpchongaaWN
import Derived.Test.YticbfcfpchongaaWFootNe
import Derived.Test.YticbfcfpchongaaWAt
import Derived.Test.YticbfcfpchongaaWEqStruct
import Derived.Test.YticbfcfpchongaaWRepsOne
import Derived.Test.YticbfcfpchongaaWInv
import Derived.Test.YticbfcfpchongaaWInvWords
import Derived.Test.YticbfcfpchongaaWGuard
import Derived.Test.YticbfcfpchongaaWNEv
import Derived.Test.YticbfcfpchongaaWMore
import Derived.Test.YticbfcfpchongaaLawBloomOrder
import Derived.Test.YticbfcfpchongaaGx10
import Derived.Test.YticbfcfpchongaaGx9
import Derived.Test.YticbfcfpchongaaGx8
import Derived.Test.YticbfcfpchongaaGx5
import Derived.Test.YticbfcfpchongaaGx1
namespace Go.Proofs.Yticbfcfpchongaa.G
open Go.RowKit Go.Proofs.YticbfcfpchongaaW.PrintWords Go.Proofs.YticbfcfpchongaaW.PrintLast Go.Proofs.YticbfcfpchongaaW.PrintMore
attribute [local go_sem] max2_int min2_int max_two min_two max_three min_three max_four min_four
set_option linter.unusedVariables false
set_option linter.unusedSimpArgs false

/-! BloomMakes holds of every input within the form's reach: the reference's filter is the program's -/
theorem wrap_u64_id (x : Int) (h0 : 0 ≤ x) (h1 : x < 18446744073709551616) : IntKind.u64.wrap x = x := by
  have : IntKind.u64.wrap x = x % 18446744073709551616 := by simp [IntKind.wrap, IntKind.bits, IntKind.signed]
  rw [this]; exact Int.emod_eq_of_lt h0 h1
theorem bits_loop (n8 p d0 : Int) (hn : 0 < n8) (hn2 : n8 ≤ 1099511627776) (hp : p ≤ 1048576) : ∀ (d : Nat) (i : Int) (h : Int) (acc : List Int) (k : Nat), i + d = p → 0 ≤ i → acc.length = i.toNat → 0 ≤ h → h < 4294967296 →
    moraineref12_bits.l0 (k + d + 1) n8 p h d0 acc i = some (acc ++ kb n8 d0 d h)
  | 0, i, h, acc, k, hi, i0, ha, h0, h1 => by
    rw [moraineref12_bits.l0, if_neg (by omega)]
    simp [kb]
  | d + 1, i, h, acc, k, hi, i0, ha, h0, h1 => by
    have m0 : 0 ≤ h % n8 := Int.emod_nonneg _ (by omega)
    have m1 : h % n8 < n8 := Int.emod_lt_of_pos _ hn
    have c0 : i < p := by omega
    have c1 : ¬ n8 = 0 := by omega
    have c2 : acc.length < 17592186044416 := by omega
    have e1 : IntKind.u64.wrap n8 = n8 := wrap_u64_id _ (by omega) (by omega)
    have e2 : IntKind.u64.wrap h = h := wrap_u64_id _ (by omega) (by omega)
    have e3 : Int.tmod h n8 = h % n8 := Int.tmod_eq_emod_of_nonneg h0
    have e4 : wrap64 (h % n8) = h % n8 := wr _ (by omega) (by omega)
    have e5 : wrap64 (i + 1) = i + 1 := wr _ (by omega) (by omega)
    rw [show k + (d + 1) + 1 = (k + d + 1) + 1 by omega, moraineref12_bits.l0, if_pos c0, e1, e2, e3, e4, e5, if_neg c1, if_pos c2]
    rw [bits_loop n8 p d0 hn hn2 hp d (i + 1) ((h + d0) % 4294967296) (acc ++ [h % n8]) k (by omega) (by omega) (by rw [List.length_append, ha]; simp; omega) (by omega) (by omega)]
    simp [kb]
theorem kb_length (n d : Int) : ∀ p h, (kb n d p h).length = p
  | 0, _ => rfl
  | p + 1, h => by simp [kb, kb_length n d p]
theorem bits_good (key : ByteArray) (n8 : Int) (p : Nat) (hn : 0 < n8) (hn2 : n8 ≤ 1099511627776) (hp : p ≤ 30) (k : Nat) (hk : key.size + 8 ≤ k) (hs : key.size ≤ 140737488351232) (hk2 : 31 ≤ k) : moraineref12_bits.f k key n8 (p : Int) = some (keyset n8 p key) := by
  obtain ⟨g0, g1, g2⟩ := hsh_all key hs
  obtain ⟨k', rfl⟩ : ∃ k', k = k' + p + 1 := ⟨k - p - 1, by omega⟩
  have := bits_loop n8 (p : Int) (rot (hsh key)) hn hn2 (by omega) p 0 (hsh key) [] k' (by omega) (by omega) rfl g0 g1
  unfold moraineref12_bits.f
  rw [(g2 _ hk).2, Option.bind_some]
  unfold rot at this
  rw [this]
  rfl
def putl (L f : List Int) : List Int := L.foldl (fun f b => f.set (b / 8).toNat (setv (rd f (b / 8)) b)) f
theorem putl_kb (n d : Int) : ∀ p h f, putbits n d p h f = putl (kb n d p h) f
  | 0, _, _ => rfl
  | p + 1, h, f => by
    simp only [putbits, kb]
    rw [putl_kb n d p]
    rfl
theorem shl_one (z : Int) (h0 : 0 ≤ z) (h1 : z < 8) : shl .u8 1 z = 2 ^ z.toNat % 256 := by
  unfold shl
  rw [Nat.min_eq_left (by show z.toNat ≤ 8; omega), IntKind.wrap_u8', Int.one_mul]
theorem ref_inner (x0 : List ByteArray) (x6 x8 x10 : Int) (L : List Int) (hL : L.length ≤ 30) (hw : wrap64 (x10 + 1) = x10 + 1) : ∀ (d j k : Nat) (f : List Int), j + d = L.length → (∀ b ∈ L, 0 ≤ b ∧ b / 8 < (f.length : Int) ∧ b < 1099511627776) →
    moraineref12_Make.l1 (k + d + 1) x0 x6 x8 f x10 L (j : Int) = moraineref12_Make.l0 k x0 x6 x8 (putl (L.drop j) f) (x10 + 1)
  | 0, j, k, f, hj, hb => by
    obtain rfl : j = L.length := by omega
    rw [moraineref12_Make.l1, if_neg (by omega), hw, List.drop_length]
    rfl
  | d + 1, j, k, f, hj, hb => by
    have hjl : j < L.length := by omega
    have hrd : rd L (j : Int) = L[j] := by
      unfold rd
      rw [Int.toNat_natCast, List.getD_eq_getElem?_getD, List.getElem?_eq_getElem hjl]
      rfl
    obtain ⟨g0, g1, g2⟩ := hb _ (List.getElem_mem hjl)
    have hd : L.drop j = L[j] :: L.drop (j + 1) := List.drop_eq_getElem_cons hjl
    have e5 : wrap64 ((j : Int) + 1) = ((j + 1 : Nat) : Int) := (wr _ (by omega) (by omega)).trans (by omega)
    have c0 : (j : Int) < (L.length : Int) := by omega
    have c1 : 0 ≤ (j : Int) := by omega
    rw [show k + (d + 1) + 1 = (k + d + 1) + 1 by omega, moraineref12_Make.l1, if_pos c0, if_pos c1, hrd, hd, e5]
    generalize L[j] = b at *
    have e1 : Int.tdiv b 8 = b / 8 := Int.tdiv_eq_ediv_of_nonneg g0
    have e2 : Int.tmod b 8 = b % 8 := Int.tmod_eq_emod_of_nonneg g0
    have e3 : wrap64 (b / 8) = b / 8 := wr _ (by omega) (by omega)
    have c2 : 0 ≤ b / 8 := by omega
    have c3 : 0 ≤ b % 8 := by omega
    rw [e1, e2, e3, if_pos c2, if_pos g1, if_pos c3, shl_one _ c3 (by omega)]
    have ih := ref_inner x0 x6 x8 x10 L hL hw d (j + 1) k (f.set (b / 8).toNat (setv (rd f (b / 8)) b)) (by omega) (fun b' hb' => by rw [List.length_set]; exact hb b' hb')
    exact ih
theorem ref_outer (l : List ByteArray) (p B : Nat) (a : Int) (hp : p ≤ 30) (b0 : 1 ≤ B) (hB : B ≤ 8388609) (hl : l.length ≤ 1048576) (k0 : Nat) (hk0 : 31 ≤ k0) (hs : Small k0 l) : ∀ (d i k : Nat) (f : List Int), i + d = l.length → k0 ≤ k → Byt f → f.length = B + 1 →
    moraineref12_Make.l0 (k + (p + 2) * d + 1) l (p : Int) (B : Int) f (i : Int) = some (fold (8 * (B : Int)) p (l.drop i) f, 0)
  | 0, i, k, f, hi, hk, bf, hf => by
    obtain rfl : i = l.length := by omega
    rw [moraineref12_Make.l0, if_neg (by omega), List.drop_length]
    rfl
  | d + 1, i, k, f, hi, hk, bf, hf => by
    have hil : i < l.length := by omega
    have hrd : rdOf ByteArray.empty l (i : Int) = l[i] := by
      unfold rdOf
      rw [Int.toNat_natCast, List.getD_eq_getElem?_getD, List.getElem?_eq_getElem hil]
      rfl
    have hd : l.drop i = l[i] :: l.drop (i + 1) := List.drop_eq_getElem_cons hil
    obtain ⟨s1, s2⟩ := hs _ (List.getElem_mem hil)
    have e5 : wrap64 ((i : Int) + 1) = (i : Int) + 1 := wr _ (by omega) (by omega)
    have e8 : wrap64 (8 * (B : Int)) = 8 * (B : Int) := wr _ (by omega) (by omega)
    have c0 : (i : Int) < (l.length : Int) := by omega
    have c1 : 0 ≤ (i : Int) := by omega
    generalize hK : k + (p + 2) * d = K
    have hKk : k ≤ K := by rw [← hK]; exact Nat.le_add_right _ _
    have hbits := bits_good l[i] (8 * (B : Int)) p (by omega) (by omega) hp (K + p + 2) (by omega) s2 (by omega)
    have hlen : (keyset (8 * (B : Int)) p l[i]).length = p := kb_length _ _ _ _
    have hrng : ∀ b ∈ keyset (8 * (B : Int)) p l[i], 0 ≤ b ∧ b / 8 < (f.length : Int) ∧ b < 1099511627776 := by
      intro b hb
      have := kb_rng _ _ (show 0 < 8 * (B : Int) by omega) _ _ b hb
      omega
    have hin := ref_inner l (p : Int) (B : Int) (i : Int) (keyset (8 * (B : Int)) p l[i]) (by omega) e5 p 0 (K + 1) f (by omega) hrng
    obtain ⟨j1, j2, _, _⟩ := putbits_all (8 * (B : Int)) (rot (hsh l[i])) (by omega) p (hsh l[i]) f bf (by omega)
    have hput : putl (keyset (8 * (B : Int)) p l[i]) f = putbits (8 * (B : Int)) (rot (hsh l[i])) p (hsh l[i]) f := (putl_kb _ _ _ _ _).symm
    have ih := ref_outer l p B a hp b0 hB hl k0 hk0 hs d (i + 1) k (putbits (8 * (B : Int)) (rot (hsh l[i])) p (hsh l[i]) f) (by omega) hk j2 (by rw [j1, hf])
    rw [hK, show ((i + 1 : Nat) : Int) = (i : Int) + 1 by omega] at ih
    rw [show ((0 : Nat) : Int) = 0 by rfl, List.drop_zero, hput] at hin
    rw [show k + (p + 2) * (d + 1) + 1 = (K + p + 2) + 1 by rw [← hK, Nat.mul_succ]; omega, moraineref12_Make.l0, if_pos c0, if_pos c1, hrd, e8, hbits, Option.bind_some]
    rw [show K + p + 2 = K + 1 + p + 1 by omega, hin, ih, hd]
    rfl
theorem wrap_in {x : Int} (h : 0 ≤ x ∧ x < 9223372036854775807) : wrap64 x = x := wr _ (by omega) (by omega)
theorem toNat_succ (B : Nat) : ((B : Int) + 1).toNat = B + 1 := by omega
theorem ref_probes (a : Int) : moraineref12_Probes.f a = bloom_Probes.f a := rfl
theorem ref_make_good (l : List ByteArray) (a : Int) (ha : 1 ≤ a ∧ a ≤ 64) (hl : l.length ≤ 1048576) (k0 : Nat) (hk0 : 31 ≤ k0) (hs : Small k0 l) : moraineref12_Make.f (k0 + ((prb a).toNat + 2) * l.length + 1) l a = some (filt l a, 0) := by
  obtain ⟨B, hB, b0, b1⟩ := bytes_rng l.length a ha hl
  have hp := prb_rng a
  have m0 : 0 ≤ (l.length : Int) * a := Int.mul_nonneg (by omega) (by omega)
  have m1 : (l.length : Int) * a ≤ 1048576 * 64 := Int.mul_le_mul (by omega) ha.2 (by omega) (by omega)
  have e1 : wrap64 ((l.length : Int) * a) = (l.length : Int) * a := wr _ (by omega) (by omega)
  have q : 64 ≤ mx ((l.length : Int) * a) 64 ∧ mx ((l.length : Int) * a) 64 ≤ 67108864 := by
    generalize (l.length : Int) * a = z at *
    unfold mx; split <;> omega
  have hB2 : (mx ((l.length : Int) * a) 64 + 7) / 8 = (B : Int) := hB
  unfold moraineref12_Make.f
  rw [ref_probes, probes_good a ha, Option.bind_some, e1]
  unfold filt
  rw [hB]
  clear e1 hB m0 m1
  generalize mx ((l.length : Int) * a) 64 = z at *
  have e6 : ((B : Int) + 1).toNat = B + 1 := toNat_succ B
  have c0 : 0 ≤ (B : Int) + 1 := by omega
  have c1 : B + 1 ≤ 281474976710656 := by omega
  have c2 : 0 ≤ (B : Int) := by omega
  have hlr : (List.replicate (B + 1) (0 : Int)).length = B + 1 := List.length_replicate
  have c3 : (B : Int) < ((List.replicate (B + 1) (0 : Int)).length : Int) := by rw [hlr]; omega
  have z0 : 0 ≤ z + 7 ∧ z + 7 < 9223372036854775807 := by omega
  have z1 : (0 : Int) ≤ (B : Int) ∧ (B : Int) < 9223372036854775807 := by omega
  have z2 : (0 : Int) ≤ (B : Int) + 1 ∧ (B : Int) + 1 < 9223372036854775807 := by omega
  have e3 : Int.tdiv (z + 7) 8 = B := (Int.tdiv_eq_ediv_of_nonneg z0.1).trans hB2
  have e2 : wrap64 (z + 7) = z + 7 := wrap_in z0
  have e4 : wrap64 (B : Int) = B := wrap_in z1
  have e5 : wrap64 ((B : Int) + 1) = (B : Int) + 1 := wrap_in z2
  rw [if_pos rfl, e2, e3, e4, e5, if_pos c0, e6, if_pos c1, Option.bind_some, if_pos c2, if_pos c3, Int.toNat_natCast]
  clear e2 e3 e4 e5 e6 z0 z1 z2 hB2 q
  obtain ⟨p, hpp⟩ := Int.eq_ofNat_of_zero_le (show 0 ≤ prb a by omega)
  have hb : Byt ((List.replicate (B + 1) (0 : Int)).set B (prb a % 256)) := byt_set (byt_zero _) _ (by omega) (by omega)
  have hlen : ((List.replicate (B + 1) (0 : Int)).set B (prb a % 256)).length = B + 1 := by rw [List.length_set, hlr]
  rw [hpp] at hb hlen hp ⊢
  rw [Int.toNat_natCast]
  have := ref_outer l p B a (by omega) (by omega) b1 hl k0 hk0 hs l.length 0 k0 _ (by omega) (Nat.le_refl _) hb hlen
  rw [show ((0 : Nat) : Int) = 0 by rfl, List.drop_zero] at this
  exact this
theorem ref_make_bad (k : Nat) (l : List ByteArray) (a : Int) (ha : ¬ (1 ≤ a ∧ a ≤ 64)) : moraineref12_Make.f k l a = some ([], 2) := by
  unfold moraineref12_Make.f
  rw [ref_probes, probes_bad a ha, Option.bind_some, if_neg (by omega)]
theorem makes_l1 (l : List ByteArray) (r : List Int) (hl : l.length ≤ 1048576) : ∀ (d i k : Nat), i + d = l.length → morainelaw12_BloomMakes.l1 (k + d + 1) l l r r (i : Int) = some true
  | 0, i, k, hi => by
    rw [morainelaw12_BloomMakes.l1, if_neg (by omega)]
    simp
  | d + 1, i, k, hi => by
    have e5 : wrap64 ((i : Int) + 1) = ((i + 1 : Nat) : Int) := (wr _ (by omega) (by omega)).trans (by omega)
    have c0 : (i : Int) < (l.length : Int) := by omega
    have c1 : 0 ≤ (i : Int) := by omega
    rw [show k + (d + 1) + 1 = (k + d + 1) + 1 by omega, morainelaw12_BloomMakes.l1, if_pos c0, if_pos c1, if_pos c0, if_pos rfl, e5]
    exact makes_l1 l r hl d (i + 1) k (by omega)
theorem makes_l0 (l : List ByteArray) (r : List Int) (hl : l.length ≤ 1048576) (n : Nat) (hn : n ≤ 1099511627776) : ∀ (d i k : Nat) (x : List Int), i + d = n → x.length = n → morainelaw12_BloomMakes.l0 (k + l.length + 1 + d + 1) l l x r r (i : Int) = some true
  | 0, i, k, x, hi, hx => by
    have := makes_l1 l r hl l.length 0 k (by omega)
    rw [show ((0 : Nat) : Int) = 0 by rfl] at this
    rw [morainelaw12_BloomMakes.l0, if_neg (by omega)]
    exact this
  | d + 1, i, k, x, hi, hx => by
    have e5 : wrap64 ((i : Int) + 1) = ((i + 1 : Nat) : Int) := (wr _ (by omega) (by omega)).trans (by omega)
    have c0 : (i : Int) < (x.length : Int) := by omega
    have c1 : 0 ≤ (i : Int) := by omega
    rw [show k + l.length + 1 + (d + 1) + 1 = (k + l.length + 1 + d + 1) + 1 by omega, morainelaw12_BloomMakes.l0, if_pos c0, if_pos c1, e5]
    exact makes_l0 l r hl n hn d (i + 1) k _ (by omega) (by rw [List.length_set, hx])
theorem BloomMakes_pure (l : List ByteArray) (a : Int) (hb : sumBulk (fun s : ByteArray => s.size + 1) l + 2 ≤ 1048576) : ∃ k, morainelaw12_BloomMakes.f k l a = some true := by
  have hlen := (small_of l hb 1048584 (Nat.le_refl _)).2
  have key : ∃ (k : Nat) (r : List Int) (e : Int), bloom_Make.f k l a = some (r, e) ∧ moraineref12_Make.f k l a = some (r, e) ∧ r.length ≤ 8388610 ∧ l.length + r.length + 9 ≤ k := by
    obtain ⟨K, hK⟩ : ∃ K : Nat, 90000000 ≤ K := ⟨_, Nat.le_refl _⟩
    by_cases ha : 1 ≤ a ∧ a ≤ 64
    · obtain ⟨B, _, _, b1, q1, _⟩ := filt_all l a ha hlen
      have hle : K ≤ K + ((prb a).toNat + 2) * l.length + 1 := by rw [Nat.add_assoc]; exact Nat.le_add_right _ _
      exact ⟨K + ((prb a).toNat + 2) * l.length + 1, filt l a, 0, make_good _ l a ha hlen (small_of l hb _ (by omega)).1, ref_make_good l a ha hlen K (by omega) (small_of l hb K (by omega)).1, by omega, by omega⟩
    · exact ⟨K, [], 2, make_bad K l a ha, ref_make_bad K l a ha, by simp, by simp; omega⟩
  obtain ⟨k, r, e, h1, h2, hr, hk⟩ := key
  refine ⟨k, ?_⟩
  have d0 : ([] : List ByteArray).length + l.length < 8796093022208 := by simp; omega
  have hname : morainelaw12_names.f = some true := rfl
  unfold morainelaw12_BloomMakes.f
  rw [Option.bind_some, if_pos d0, Option.bind_some, List.nil_append, h1, Option.bind_some, Option.bind_some, h2, Option.bind_some, if_pos rfl, if_pos rfl, hname, Option.bind_some]
  obtain ⟨k', rfl⟩ : ∃ k', k = (k' + l.length + 1 + r.length + 1) + 1 := ⟨k - l.length - r.length - 3, by omega⟩
  have := makes_l0 l r hlen r.length (by omega) r.length 0 k' r (by omega) rfl
  rw [morainelaw12_BloomMakes.j0, if_neg (by simp)]
  exact this
theorem BloomMakes_upto (w : World) (A0 : Option Addr) (c0 : Nat) (l0 : List ByteArray) (hc0 : l0.length ≤ c0) (hr0 : Kd.C Kd.string w A0 l0.length l0) (hg0 : ∀ x ∈ l0, x.size ≤ maxLen) (a1 : Int) (hg1 : (Lit.int .i64 a1).wf = true) (hbulk : sumBulk (fun s : ByteArray => s.size + 1) l0 + 2 ≤ 1048576) :
    Calls Try.prog 5 #[.slice A0 l0.length c0, .int .i64 a1] w fun e w' => e = .returned (.bool true) ∧ Below w.heap.size w w' := by
  obtain ⟨k, hk⟩ := BloomMakes_pure l0 a1 hbulk
  exact morainelaw12_BloomMakes.calls k A0 c0 l0 a1 true w hr0 hc0 hk

end Go.Proofs.Yticbfcfpchongaa.G
