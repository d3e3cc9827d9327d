/- Contracts typed by hand: plain laws of what is put: a number's varint, its bytes, a text with its length ahead -/
import Derived.Test.YtlfikdpcfoflfaaProg
import Derived.Below
import Derived.Deep.Draws
import Derived.Deep.AppendLies
import Derived.Maps.AppendAt
import Derived.OwnWalk
import Derived.Laws.BytesArg
import Derived.Laws.MakeOwn
import Derived.Laws.OwnMore
import Derived.Deep.OwnRows
import Derived.Tactics
import Derived.Lib.ConvBytes
import Derived.Laws.Slices
import Derived.WalkKit
import Derived.KernelRfl
import Derived.RowKit3
import Derived.Deep.LoopGhost
import Derived.Deep.QuietTactic
import Derived.BigQuiet
import Derived.WideLaws
import Derived.Deep.DeepCutAuto
import Derived.Deep.CutBlock
import Derived.Deep.RegionHeld3
import Derived.Laws.Rows
import Derived.Lib.AppendStr
import Derived.ArgAppend
import Derived.Laws.IdiomCopy
import Derived.OrdersHeld
import Derived.Laws.BitsLemmas
import Derived.RowKit
import Derived.Test.YtlfikdpcfoflfaaWWords
import Derived.Test.YtlfikdpcfoflfaaWLast
import Derived.Test.YtlfikdpcfoflfaaWTab
import Derived.Test.YtlfikdpcfoflfaaWFour
import Derived.Test.YtlfikdpcfoflfaaWQPut
import Derived.Test.YtlfikdpcfoflfaaWApart
import Derived.Test.YtlfikdpcfoflfaaWArr
import Derived.Test.YtlfikdpcfoflfaaWZeros
import Derived.Test.YtlfikdpcfoflfaaWFoot
import Derived.Test.YtlfikdpcfoflfaaWKept
import Derived.Test.YtlfikdpcfoflfaaWShare
import Derived.Test.YtlfikdpcfoflfaaWN
import Derived.Test.YtlfikdpcfoflfaaWFootNe
import Derived.Test.YtlfikdpcfoflfaaWAt
import Derived.Test.YtlfikdpcfoflfaaWEqStruct
import Derived.Test.YtlfikdpcfoflfaaWRepsOne
import Derived.Test.YtlfikdpcfoflfaaWInv
import Derived.Test.YtlfikdpcfoflfaaWInvWords
import Derived.Test.YtlfikdpcfoflfaaWGuard
import Derived.Test.YtlfikdpcfoflfaaWNEv
import Derived.Test.YtlfikdpcfoflfaaWMore
import Derived.Test.YtlfikdpcfoflfaaPureFixed
import Derived.Test.YtlfikdpcfoflfaaManGrown
import Derived.Test.YtlfikdpcfoflfaaGx12
import Derived.Test.YtlfikdpcfoflfaaGx11
import Derived.Test.YtlfikdpcfoflfaaGx13
import Derived.Test.YtlfikdpcfoflfaaGx15
namespace Go.Proofs.Ytlfikdpcfoflfaa.G
open Go.RowKit Go.Proofs.YtlfikdpcfoflfaaW.PrintWords Go.Proofs.YtlfikdpcfoflfaaW.PrintLast Go.Proofs.YtlfikdpcfoflfaaW.PrintMore
attribute [local go_sem] max2_int min2_int max_two min_two max_three min_three max_four min_four
set_option linter.unusedVariables false
set_option linter.unusedSimpArgs false

/-! plain laws of what is put: a number's varint, its bytes, a text with its length ahead -/
def encF : Nat → Int → List Int
  | 0, v => [v % 256]
  | f + 1, v => if 128 ≤ v then (v % 128 + 128) :: encF f (v / 128) else [v % 256]
def enc (v : Int) : List Int := encF 9 v
def Small (f : Nat) (v : Int) : Prop := 0 ≤ v ∧ v < 128 ^ (f + 1)
theorem small9 (v : Int) (h0 : 0 ≤ v) (h1 : v < 18446744073709551616) : Small 9 v := by
  refine ⟨h0, ?_⟩
  have : (128 : Int) ^ (9 + 1) = 1180591620717411303424 := by decide
  rw [this]; omega
theorem small_div {f : Nat} {v : Int} (h : Small (f + 1) v) : Small f (v / 128) := by
  obtain ⟨h0, h1⟩ := h
  refine ⟨by omega, ?_⟩
  have e : (128 : Int) ^ (f + 1 + 1) = 128 ^ (f + 1) * 128 := Int.pow_succ 128 (f + 1)
  rw [e] at h1
  generalize (128 : Int) ^ (f + 1) = p at *
  omega
theorem small_zero {v : Int} (h : Small 0 v) : 0 ≤ v ∧ v < 128 := ⟨h.1, by have := h.2; simpa using this⟩
theorem encF_len : ∀ (f : Nat) (v : Int), 1 ≤ (encF f v).length ∧ (encF f v).length ≤ f + 1
  | 0, v => by simp [encF]
  | f + 1, v => by
    have ih := encF_len f (v / 128)
    simp only [encF]
    split
    · simp only [List.length_cons]; omega
    · simp
theorem encF_bytes : ∀ (f : Nat) (v : Int), 0 ≤ v → Bytes (encF f v)
  | 0, v, h => by
    intro x hx
    simp only [encF, List.mem_singleton] at hx
    omega
  | f + 1, v, h => by
    have ih := encF_bytes f (v / 128) (by omega)
    simp only [encF]
    split
    · intro x hx
      rcases List.mem_cons.1 hx with rfl | hx
      · omega
      · exact ih x hx
    · intro x hx
      rw [List.mem_singleton] at hx
      omega
theorem or128 (v : Int) (h : 0 ≤ v) : bits .or .u8 (v % 256) 128 = v % 128 + 128 := by
  by_cases h2 : v % 256 < 128
  · obtain ⟨a, ha⟩ := Int.eq_ofNat_of_zero_le (show 0 ≤ v % 256 by omega)
    rw [ha]
    have := Nat.two_pow_add_eq_or_of_lt (show a < 2 ^ 7 by omega) 1
    rw [show (128 : Int) = ((128 : Nat) : Int) by omega, u8_or_nat a 128 (by omega) (by omega), Nat.or_comm]
    rw [show 128 ||| a = 2 ^ 7 * 1 ||| a from rfl, ← this]
    omega
  · obtain ⟨a, ha⟩ := Int.eq_ofNat_of_zero_le (show 0 ≤ v % 256 - 128 by omega)
    have e : v % 256 = ((128 + a : Nat) : Int) := by omega
    rw [e, show (128 : Int) = ((128 : Nat) : Int) by omega, u8_or_nat (128 + a) 128 (by omega) (by omega)]
    have h1 := Nat.two_pow_add_eq_or_of_lt (show a < 2 ^ 7 by omega) 1
    have e2 : 128 + a = 2 ^ 7 * 1 ||| a := by rw [← h1]
    have e3 : (128 + a) ||| 128 = 128 + a := by
      rw [e2, Nat.or_comm, ← Nat.or_assoc, show 128 ||| 2 ^ 7 * 1 = 2 ^ 7 * 1 from rfl]
    rw [e3]; omega
theorem varint_eq : ∀ (f k : Nat) (x0 : List Int) (v : Int), Small f v → f + 1 ≤ k → x0.length + f + 1 < 140737488355328 → codec_varint.l0 k x0 v = some (x0 ++ encF f v) := by
  intro f
  induction f with
  | zero =>
    intro k x0 v h hk hl
    obtain ⟨k, rfl⟩ : ∃ m, k = m + 1 := ⟨k - 1, by omega⟩
    have hs := small_zero h
    simp only [codec_varint.l0]
    rw [if_neg (show ¬ v ≥ 128 by omega), if_pos (by omega)]
    rfl
  | succ f ih =>
    intro k x0 v h hk hl
    obtain ⟨k, rfl⟩ : ∃ m, k = m + 1 := ⟨k - 1, by omega⟩
    simp only [codec_varint.l0, encF]
    by_cases hv : v ≥ 128
    · rw [if_pos hv, if_pos (by omega), if_pos (show 128 ≤ v from hv), or128 v h.1, ih k _ _ (small_div h) (by omega) (by simp; omega)]
      simp
    · rw [if_neg hv, if_pos (by omega), if_neg (show ¬ 128 ≤ v from hv)]
theorem size_eq : ∀ (f k : Nat) (v : Int) (n : Nat), Small f v → f + 1 ≤ k → n + f ≤ 100 → codec_Size.l0 k v n = some (((n + (encF f v).length - 1 : Nat) : Int)) := by
  intro f
  induction f with
  | zero =>
    intro k v n h hk hn
    obtain ⟨k, rfl⟩ : ∃ m, k = m + 1 := ⟨k - 1, by omega⟩
    have hs := small_zero h
    simp only [codec_Size.l0]
    rw [if_neg (show ¬ v ≥ 128 by omega)]
    simp [encF]
  | succ f ih =>
    intro k v n h hk hn
    obtain ⟨k, rfl⟩ : ∃ m, k = m + 1 := ⟨k - 1, by omega⟩
    have hl := encF_len f (v / 128)
    have w : wrap64 ((n : Int) + 1) = ((n + 1 : Nat) : Int) := by unfold wrap64; omega
    simp only [codec_Size.l0, encF, w]
    by_cases hv : v ≥ 128
    · rw [if_pos hv, if_pos (show 128 ≤ v from hv), ih k _ (n + 1) (small_div h) (by omega) (by omega)]
      simp only [List.length_cons]
      congr 2; omega
    · rw [if_neg hv, if_neg (show ¬ 128 ≤ v from hv)]
      simp
theorem enc_len (v : Int) : 1 ≤ (enc v).length ∧ (enc v).length ≤ 10 := encF_len 9 v
theorem enc_bytes (v : Int) (h : 0 ≤ v) : Bytes (enc v) := encF_bytes 9 v h
theorem Size_eq (k : Nat) (v : Int) (h0 : 0 ≤ v) (h1 : v < 18446744073709551616) (hk : 10 ≤ k) : codec_Size.f k v = some ((enc v).length : Int) := by
  unfold codec_Size.f
  have := size_eq 9 k v 1 (small9 v h0 h1) (by omega) (by omega)
  have hl := enc_len v
  unfold enc at *
  rw [show ((1 : Nat) : Int) = 1 by omega] at this
  rw [this]
  congr 2; omega
theorem grown_eq (l : List Int) (n : Int) (h0 : 0 ≤ n) (h1 : (l.length : Int) + n ≤ 140737488355328) : codec_grown.f l n = some l := by
  unfold codec_grown.f
  rw [if_pos h0, if_pos h1]
theorem PutVarint_eq (k : Nat) (l : List Int) (v : Int) (h0 : 0 ≤ v) (h1 : v < 18446744073709551616) (hl : l.length ≤ 140737488355300) (hk : 10 ≤ k) : codec_PutVarint.f k l v = some (l ++ enc v) := by
  have hn := enc_len v
  unfold codec_PutVarint.f
  rw [Size_eq k v h0 h1 hk]
  simp only [Option.bind_some]
  rw [grown_eq l _ (by omega) (by omega)]
  simp only [Option.bind_some]
  unfold codec_varint.f
  rw [varint_eq 9 k l v (small9 v h0 h1) (by omega) (by omega)]
  rfl
/-- n bytes of a number -/
def fixF : Nat → Int → List Int
  | 0, _ => []
  | n + 1, v => v % 256 :: fixF n (v / 256)
theorem fixF_len : ∀ (n : Nat) (v : Int), (fixF n v).length = n
  | 0, _ => rfl
  | n + 1, v => by simp [fixF, fixF_len n]
theorem fixF_bytes : ∀ (n : Nat) (v : Int), Bytes (fixF n v)
  | 0, _ => by intro x hx; simp [fixF] at hx
  | n + 1, v => by
    intro x hx
    simp only [fixF] at hx
    rcases List.mem_cons.1 hx with rfl | hx
    · omega
    · exact fixF_bytes n _ x hx
theorem fixed_put : ∀ (d k : Nat) (x0 : List Int) (v : Int) (n i : Nat), i + d = n → n ≤ 100 → d + 1 ≤ k → x0.length + d < 140737488355328 → codec_fixed.l0 k x0 v n i = some (x0 ++ fixF d v) := by
  intro d
  induction d with
  | zero =>
    intro k x0 v n i hi hn hk hl
    obtain ⟨k, rfl⟩ : ∃ m, k = m + 1 := ⟨k - 1, by omega⟩
    simp only [codec_fixed.l0]
    rw [if_neg (by omega)]
    simp [fixF]
  | succ d ih =>
    intro k x0 v n i hi hn hk hl
    obtain ⟨k, rfl⟩ : ∃ m, k = m + 1 := ⟨k - 1, by omega⟩
    have w : wrap64 ((i : Int) + 1) = ((i + 1 : Nat) : Int) := by unfold wrap64; omega
    simp only [codec_fixed.l0, w]
    rw [if_pos (by omega), if_pos (by omega), ih k _ _ n (i + 1) (by omega) hn (by omega) (by simp; omega)]
    simp [fixF]
theorem fixed_f (k : Nat) (l : List Int) (v : Int) (n : Nat) (hn : n ≤ 100) (hk : n + 1 ≤ k) (hl : l.length ≤ 140737488355200) : codec_fixed.f k l v n = some (l ++ fixF n v) := by
  unfold codec_fixed.f
  rw [grown_eq l _ (by omega) (by omega)]
  simp only [Option.bind_some]
  exact fixed_put n k l v n 0 (by omega) hn hk (by omega)
theorem bytesOf_bytes (s : ByteArray) : Bytes (bytesOf s) := by
  intro x hx
  simp only [bytesOf, List.mem_map] at hx
  obtain ⟨b, _, rfl⟩ := hx
  have := b.toNat_lt
  omega
/-- a text with its length ahead -/
def encText (s : ByteArray) : List Int := enc (s.size : Int) ++ bytesOf s
theorem encText_len (s : ByteArray) : (encText s).length ≤ s.size + 10 ∧ s.size + 1 ≤ (encText s).length := by
  have := enc_len (s.size : Int)
  unfold encText
  rw [List.length_append, bytesOf_length]
  omega
theorem encText_bytes (s : ByteArray) : Bytes (encText s) := (enc_bytes _ (by omega)).append (bytesOf_bytes s)
/-! what is put is read again, and what is read was put so -/
theorem up_up (v c u : Int) (j : Nat) : up (up v c j) u (j + 1) = up v (c + 128 * u) j := by
  unfold up
  have e : (2 : Int) ^ (7 * (j + 1)) = 128 * 2 ^ (7 * j) := by
    rw [show 7 * (j + 1) = 7 + 7 * j by omega, Int.pow_add]
    rfl
  rw [e]
  generalize (2 : Int) ^ (7 * j) = p
  rw [Int.add_mul, Int.mul_assoc 128 u p, Int.mul_left_comm u 128 p]
  omega
theorem up_zero (u : Int) : up 0 u 0 = u := by simp [up]
def Room (f : Nat) (u : Int) : Prop := 0 ≤ u ∧ u < 2 * 128 ^ f
theorem room9 (v : Int) (h0 : 0 ≤ v) (h1 : v < 18446744073709551616) : Room 9 v := by
  refine ⟨h0, ?_⟩
  have : (2 : Int) * 128 ^ 9 = 18446744073709551616 := by decide
  rw [this]; omega
theorem room_div {f : Nat} {v : Int} (h : Room (f + 1) v) : Room f (v / 128) := by
  obtain ⟨h0, h1⟩ := h
  refine ⟨by omega, ?_⟩
  rw [Int.pow_succ, ← Int.mul_assoc] at h1
  generalize (2 : Int) * 128 ^ f = p at *
  omega
theorem room_zero {v : Int} (h : Room 0 v) : 0 ≤ v ∧ v < 2 := ⟨h.1, by have := h.2; simpa using this⟩
/-- reading what was put -/
theorem go_put (at_ : Int) (rest : List Int) : ∀ (f j : Nat) (v u : Int), f + j = 9 → Fits v j → (j = 0 ∨ 1 ≤ u) → Room f u →
    codec_Varint.go at_ (encF f u ++ rest) j v = (up v u j, at_ + j + (encF f u).length, 0) := by
  intro f
  induction f with
  | zero =>
    intro j v u hj hv hu hs
    obtain ⟨h0, hu2⟩ := room_zero hs
    have e : u % 256 = u := by omega
    have hg := group1 hv (by omega) h0 hu2
    simp only [encF, e, List.singleton_append, codec_Varint.go]
    rw [if_neg (show ¬ (j = 9 ∧ 1 < u) by omega), if_neg (show ¬ (u = 0 ∧ 0 < j) by omega), if_pos (by omega), hg.1]
    simp
  | succ f ih =>
    intro j v u hj hv hu hs
    have h0 := hs.1
    simp only [encF]
    by_cases hb : 128 ≤ u
    · rw [if_pos hb]
      simp only [List.cons_append, codec_Varint.go]
      rw [if_neg (show ¬ (j = 9 ∧ 1 < u % 128 + 128) by omega), if_neg (show ¬ (u % 128 + 128 = 0 ∧ 0 < j) by omega), if_neg (by omega), and127 _ (by omega) (by omega)]
      have hg := group7 (c := u % 128) hv (by omega) (by omega) (by omega)
      rw [show (u % 128 + 128) % 128 = u % 128 by omega, hg.1, ih (j + 1) _ (u / 128) (by omega) hg.2.2.1 (by omega) (room_div hs)]
      · rw [up_up, show u % 128 + 128 * (u / 128) = u by omega]
        simp only [List.length_cons]
        congr 2
        omega
    · rw [if_neg hb]
      have e : u % 256 = u := by omega
      have hg := group7 (c := u) hv (by omega) h0 (by omega)
      simp only [e, List.singleton_append, codec_Varint.go]
      rw [if_neg (show ¬ (j = 9 ∧ 1 < u) by omega), if_neg (show ¬ (u = 0 ∧ 0 < j) by omega), if_pos (by omega), hg.1]
      simp
/-- what was read was put so -/
theorem go_was (at_ : Int) : ∀ (cs : List Int) (j : Nat) (v w n : Int), j ≤ 9 → Fits v j → Bytes cs → codec_Varint.go at_ cs j v = (w, n, 0) →
    ∃ u : Int, 0 ≤ u ∧ (j = 0 ∨ 1 ≤ u) ∧ w = up v u j ∧ n = at_ + j + (encF (9 - j) u).length ∧ cs.take (encF (9 - j) u).length = encF (9 - j) u ∧ (encF (9 - j) u).length ≤ cs.length
  | [], j, v, w, n, _, _, _, h => by
    simp only [codec_Varint.go, Prod.mk.injEq] at h
    omega
  | c :: cs, j, v, w, n, hj, hv, hb, h => by
    have hc := hb c List.mem_cons_self
    simp only [codec_Varint.go] at h
    by_cases h1 : j = 9 ∧ 1 < c
    · rw [if_pos h1] at h; simp at h
    · rw [if_neg h1] at h
      by_cases h2 : c = 0 ∧ 0 < j
      · rw [if_pos h2] at h; simp at h
      · rw [if_neg h2] at h
        by_cases h3 : c < 128
        · rw [if_pos h3] at h
          have e : encF (9 - j) c = [c] := by
            rcases Nat.lt_or_ge j 9 with hj9 | hj9
            · obtain ⟨f, hf⟩ : ∃ f, 9 - j = f + 1 := ⟨8 - j, by omega⟩
              rw [hf]
              simp only [encF]
              rw [if_neg (by omega), show c % 256 = c by omega]
            · rw [show 9 - j = 0 by omega]
              simp only [encF]
              rw [show c % 256 = c by omega]
          have hu : bits .or .u64 v (IntKind.u64.wrap (IntKind.u64.wrap c * 2 ^ (7 * j))) = up v c j := by
            by_cases h9 : j = 9
            · exact (group1 hv h9 hc.1 (by omega)).1
            · exact (group7 hv (by omega) hc.1 h3).1
          rw [hu] at h
          simp only [Prod.mk.injEq] at h
          refine ⟨c, hc.1, by omega, h.1.symm, ?_, ?_, ?_⟩
          · rw [e]; simp; omega
          · rw [e]; simp
          · rw [e]; simp
        · rw [if_neg h3, and127 c hc.1 hc.2] at h
          have hg := group7 (c := c % 128) hv (by omega) (by omega) (by omega)
          rw [hg.1] at h
          obtain ⟨u, u0, u1, hw, hn, ht, hl⟩ := go_was at_ cs (j + 1) _ w n (by omega) hg.2.2.1 (fun x hx => hb x (List.mem_cons_of_mem _ hx)) h
          obtain ⟨f, hf⟩ : ∃ f, 9 - j = f + 1 := ⟨8 - j, by omega⟩
          have e : encF (9 - j) (c % 128 + 128 * u) = c :: encF (9 - (j + 1)) u := by
            rw [hf, show 9 - (j + 1) = f by omega]
            simp only [encF]
            rw [if_pos (by omega), show (c % 128 + 128 * u) % 128 + 128 = c by omega, show (c % 128 + 128 * u) / 128 = u by omega]
          refine ⟨c % 128 + 128 * u, by omega, by omega, by rw [hw, up_up], ?_, ?_, ?_⟩
          · rw [e, hn]; simp only [List.length_cons]; omega
          · rw [e, List.length_cons, List.take_succ_cons, ht]
          · rw [e, List.length_cons, List.length_cons]; omega
/-- a number put behind some bytes and ahead of others is read there -/
theorem Varint_put (l r : List Int) (v : Int) (h0 : 0 ≤ v) (h1 : v < 18446744073709551616) (hl : (l ++ enc v ++ r).length ≤ 140737488355328) : codec_Varint.f (l ++ enc v ++ r) l.length = some (v, (l.length : Int) + ((enc v).length : Int), 0) := by
  have hlen : (l ++ enc v ++ r).length = l.length + (enc v).length + r.length := by rw [List.length_append, List.length_append]
  unfold codec_Varint.f
  rw [if_neg (by omega), if_neg (by omega), if_pos (by omega), Int.toNat_natCast]
  rw [List.append_assoc, List.drop_left]
  have := go_put (l.length : Int) r 9 0 0 v (by omega) fits0 (.inl rfl) (room9 v h0 h1)
  unfold enc
  rw [this, up_zero]
  simp
/-- what is read at the beginning was put so -/
theorem Varint_was (l : List Int) (w n : Int) (hb : Bytes l) (h : codec_Varint.f l 0 = some (w, n, 0)) : n = (enc w).length ∧ l.take (enc w).length = enc w ∧ (enc w).length ≤ l.length := by
  unfold codec_Varint.f at h
  rw [if_neg (by omega), if_neg (by omega)] at h
  by_cases hl : (l.length : Int) ≤ 281474976710656
  · rw [if_pos hl] at h
    simp only [Int.toNat_zero, List.drop_zero, Option.some.injEq] at h
    obtain ⟨u, _, _, hw, hn, ht, hx⟩ := go_was 0 l 0 0 w n (by omega) fits0 hb h
    rw [up_zero] at hw
    subst hw
    refine ⟨?_, ht, hx⟩
    simp only [Nat.sub_zero] at hn
    unfold enc
    omega
  · rw [if_neg hl] at h
    cases h

end Go.Proofs.Ytlfikdpcfoflfaa.G
