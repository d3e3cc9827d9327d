/- Contracts typed by hand: bloom.each with its two functions, bloom.Make, bloom.May -/
import Derived.Test.YticbfcfpchongaaProg
import Derived.Below
import Derived.Deep.Draws
import Derived.Deep.AppendLies
import Derived.Maps.AppendAt
import Derived.OwnWalk
import Derived.Laws.BytesArg
import Derived.Laws.MakeOwn
import Derived.Laws.OwnMore
import Derived.Deep.OwnRows
import Derived.Tactics
import Derived.Lib.ConvBytes
import Derived.Laws.Slices
import Derived.WalkKit
import Derived.KernelRfl
import Derived.RowKit3
import Derived.Deep.LoopGhost
import Derived.Deep.QuietTactic
import Derived.BigQuiet
import Derived.WideLaws
import Derived.Deep.DeepCutAuto
import Derived.Deep.CutBlock
import Derived.Deep.RegionHeld3
import Derived.Laws.Rows
import Derived.Lib.AppendStr
import Derived.ArgAppend
import Derived.Laws.IdiomCopy
import Derived.OrdersHeld
import Derived.Laws.BitsLemmas
import Derived.RowKit
import Derived.Test.YticbfcfpchongaaWWords
import Derived.Test.YticbfcfpchongaaWLast
import Derived.Test.YticbfcfpchongaaWTab
import Derived.Test.YticbfcfpchongaaWFour
import Derived.Test.YticbfcfpchongaaWQPut
import Derived.Test.YticbfcfpchongaaWApart
import Derived.Test.YticbfcfpchongaaWArr
import Derived.Test.YticbfcfpchongaaWZeros
import Derived.Test.YticbfcfpchongaaWFoot
import Derived.Test.YticbfcfpchongaaWKept
import Derived.Test.YticbfcfpchongaaWShare
import Derived.Test.YticbfcfpchongaaWN
import Derived.Test.YticbfcfpchongaaWFootNe
import Derived.Test.YticbfcfpchongaaWAt
import Derived.Test.YticbfcfpchongaaWEqStruct
import Derived.Test.YticbfcfpchongaaWRepsOne
import Derived.Test.YticbfcfpchongaaWInv
import Derived.Test.YticbfcfpchongaaWInvWords
import Derived.Test.YticbfcfpchongaaWGuard
import Derived.Test.YticbfcfpchongaaWNEv
import Derived.Test.YticbfcfpchongaaWMore
import Derived.Test.YticbfcfpchongaaGx3
import Derived.Test.YticbfcfpchongaaGx2
import Derived.Test.YticbfcfpchongaaGx12
namespace Go.Proofs.Yticbfcfpchongaa.G
open Go.RowKit Go.Proofs.YticbfcfpchongaaW.PrintWords Go.Proofs.YticbfcfpchongaaW.PrintLast Go.Proofs.YticbfcfpchongaaW.PrintMore
attribute [local go_sem] max2_int min2_int max_two min_two max_three min_three max_four min_four
set_option linter.unusedVariables false
set_option linter.unusedSimpArgs false

/-! bloom.each with its two functions, bloom.Make, bloom.May -/
def setv (x b : Int) : Int := bits .or .u8 x (2 ^ (b % 8).toNat % 256)
def getv (x b : Int) : Bool := bits .and .u8 (x / 2 ^ (b % 8).toNat) 1 == 1
def rot (h : Int) : Int := bits .or .u32 (h / 131072) (h * 32768 % 4294967296)
def putbits (n d : Int) : Nat → Int → List Int → List Int
  | 0, _, f => f
  | p + 1, h, f => putbits n d p ((h + d) % 4294967296) (f.set (h % n / 8).toNat (setv (rd f (h % n / 8)) (h % n)))
def allbits (n d : Int) (f : List Int) : Nat → Int → Bool
  | 0, _ => true
  | p + 1, h => if getv (rd f (h % n / 8)) (h % n) then allbits n d f p ((h + d) % 4294967296) else false
set_option maxHeartbeats 1000000 in
theorem make1_calls (gv g n cap base : Nat) (fl : List Int) (b : Int) (w : World) (hv : w.cell? ⟨gv, 0, none⟩ = some (.slice (some ⟨g, 0, none⟩) n cap)) (own : w.ownsRow base 5 1 (.slice (some ⟨g, 0, none⟩) n cap) n (nums .u8 fl)) (hb : 0 ≤ b) (hbn : b / 8 < n) (hb32 : b < 4294967296) :
    Calls Try.prog 27 #[.int .u32 b, .pointer (some ⟨gv, 0, none⟩)] w fun e w' => e = .returned (.bool true) ∧ w.setCell ⟨g, (b / 8).toNat, none⟩ (.int .u8 (setv (rd fl (b / 8)) b)) = w' := by
  obtain ⟨hc, hf⟩ := own_at own (b / 8) (by omega) hbn
  have h1 : 0 ≤ b / 8 := by omega
  clear own
  generalize rd fl (b / 8) = x at *
  go_enter Try.func27, Try.ntmps27
  go_wp2
  go_ret
  exact ⟨rfl, rfl⟩
set_option maxHeartbeats 1000000 in
theorem may1_calls (gv n cap : Nat) (A : Option Addr) (fl : List Int) (b : Int) (w : World) (hv : w.cell? ⟨gv, 0, none⟩ = some (.slice A n cap)) (hC : Kd.C (Kd.int .u8) w A n fl) (hb : 0 ≤ b) (hbn : b / 8 < n) (hb32 : b < 4294967296) :
    Calls Try.prog 31 #[.int .u32 b, .pointer (some ⟨gv, 0, none⟩)] w fun e w' => e = .returned (.bool (getv (rd fl (b / 8)) b)) ∧ w = w' := by
  have h1 : 0 ≤ b / 8 := by omega
  obtain ⟨ad, e1, hx⟩ := Kd.at_int hC (b / 8) h1 hbn
  subst e1
  clear hC
  generalize rd fl (b / 8) = x at *
  go_enter Try.func31, Try.ntmps31
  go_wp2
  go_ret
  exact ⟨rfl, rfl⟩
theorem grown_trans {w w1 w2 : World} {g : Nat} (h : w.grownBy w1 (some g)) (k : w1.grownBy w2 (some g)) : w.grownBy w2 (some g) :=
  ⟨k.os.trans h.os, k.tape.trans h.tape, k.output.trans h.output, Nat.le_trans h.size k.size, fun i hi hne => (k.block i (Nat.lt_of_lt_of_le hi h.size) hne).trans (h.block i hi hne)⟩
theorem grown_cell {w w1 : World} {g gv : Nat} (h : w.grownBy w1 (some g)) (hne : gv ≠ g) {v : Value} (hc : w.cell? ⟨gv, 0, none⟩ = some v) : w1.cell? ⟨gv, 0, none⟩ = some v := by
  have hlt := World.block_lt_of_cell? w _ hc
  have := h.block gv hlt (by simpa using hne)
  unfold World.cell? at *
  rw [this]
  exact hc
set_option maxHeartbeats 4000000 in
set_option maxRecDepth 100000 in
theorem eachmake_calls (k : Nat) (key : ByteArray) (n8 : Int) (p : Nat) (h : Int) (gv g n cap base : Nat) (fl : List Int) (w : World) (hk : bloom_Hash.f k key 3164544308 = some h) (h0 : 0 ≤ h) (h1 : h < 4294967296) (hn0 : 0 < n8) (hn1 : n8 < 4294967296) (hn : n8 ≤ 8 * n) (hp : p ≤ 100)
    (hv : w.cell? ⟨gv, 0, none⟩ = some (.slice (some ⟨g, 0, none⟩) n cap)) (hne : gv ≠ g) (own : w.ownsRow base 5 1 (.slice (some ⟨g, 0, none⟩) n cap) n (nums .u8 fl)) :
    Calls Try.prog 26 #[.string key, .int .u32 n8, .int .i64 p, .func (.func 27) #[] #[.pointer (some ⟨gv, 0, none⟩)]] w fun e w' => e = .returned (.bool true) ∧ w'.ownsRow base 5 1 (.slice (some ⟨g, 0, none⟩) n cap) n (nums .u8 (putbits n8 (rot h) p h fl)) ∧ w.grownBy w' (some g) := by
  have HK := Aside0.mk hk
  have HV := Aside0.mk hv
  have HO := Aside0.mk own
  clear hk hv own
  have HNE := Aside0.mk hne
  clear hne
  go_enter Try.func26, Try.ntmps26
  go_wp2_with (first | (go_at_call 13; (with_reducible refine (bloom_Hash.calls k key 3164544308 h _ HK.out).mono ?_); rintro e w1 ⟨rfl, ⟨nd, rfl⟩⟩))
  go_loopw [9, 19] (fun v9 v19 wr => ∃ (j : Nat) (hj : Int) (fj : List Int), v9 = .int .u32 hj ∧ v19 = .int .i64 (j : Int) ∧ j ≤ p ∧ 0 ≤ hj ∧ hj < 4294967296 ∧ Aside0 (putbits n8 (rot h) (p - j) hj fj = putbits n8 (rot h) p h fl) ∧ Aside0 (wr.ownsRow base 5 1 (.slice (some ⟨g, 0, none⟩) n cap) n (nums .u8 fj)) ∧ Aside0 (w.grownBy wr (some g))) (fun _ v19 _ => p - (intOf v19).toNat)
  case atStart => exact ⟨0, h, fl, rfl, rfl, by omega, h0, h1, ⟨rfl⟩, ⟨HO.out⟩, ⟨⟨rfl, rfl, rfl, Nat.le_refl _, fun _ _ _ => rfl⟩⟩⟩
  case round =>
    clear HO
    obtain ⟨j, hj, fj, rfl, rfl, hjp, hj0, hj1, HF, HO, HG⟩ := hrel
    by_cases hlt : j < p
    · have hm0 : 0 ≤ hj % n8 := Int.emod_nonneg _ (by omega)
      have hm1 : hj % n8 < n8 := Int.emod_lt_of_pos _ hn0
      have b1 : decide ((j : Int) < (p : Int)) = true := decide_eq_true (by omega)
      go_wp2_with (first | (go_at_call 27; (with_reducible refine (make1_calls gv g n cap base fj (hj % n8) _ (grown_cell HG.out HNE.out HV.out) HO.out hm0 (by omega) (by omega)).mono ?_); rintro e w2 ⟨rfl, hw2⟩; have HW2 := Aside0.mk hw2; clear hw2))
      go_roundw
      case rel =>
        obtain ⟨o1, o2⟩ := own_store HO.out (hj % n8 / 8) (setv (rd fj (hj % n8 / 8)) (hj % n8))
        refine ⟨j + 1, (hj + rot h) % 4294967296, fj.set (hj % n8 / 8).toNat (setv (rd fj (hj % n8 / 8)) (hj % n8)), ?_, by go_num, by omega, by omega, by omega, ⟨?_⟩, ⟨?_⟩, ⟨?_⟩⟩
        · rfl
        · rw [← HF.out, show p - j = p - (j + 1) + 1 by omega]
          rfl
        · rw [← HW2.out]; exact o1
        · rw [← HW2.out]; exact grown_trans HG.out o2
      case measure => simp [intOf]; omega
    · obtain rfl : j = p := by omega
      have hf := HF.out
      rw [Nat.sub_self] at hf
      simp only [putbits] at hf
      have HF2 := Aside0.mk hf
      clear hf HF
      go_wp2
      go_ret
      exact ⟨rfl, by rw [← HF2.out]; exact HO.out, HG.out⟩
set_option maxHeartbeats 4000000 in
set_option maxRecDepth 100000 in
theorem eachmay_calls (k : Nat) (key : ByteArray) (n8 : Int) (p : Nat) (h : Int) (gv n cap : Nat) (A : Option Addr) (fl : List Int) (w : World) (hk : bloom_Hash.f k key 3164544308 = some h) (h0 : 0 ≤ h) (h1 : h < 4294967296) (hn0 : 0 < n8) (hn1 : n8 < 4294967296) (hn : n8 ≤ 8 * n) (hp : p ≤ 100)
    (hv : w.cell? ⟨gv, 0, none⟩ = some (.slice A n cap)) (hC : Kd.C (Kd.int .u8) w A n fl) :
    Calls Try.prog 26 #[.string key, .int .u32 n8, .int .i64 p, .func (.func 31) #[] #[.pointer (some ⟨gv, 0, none⟩)]] w fun e w' => e = .returned (.bool (allbits n8 (rot h) fl p h)) ∧ Drawn0 w w' := by
  have HK := Aside0.mk hk
  have HV := Aside0.mk hv
  have HO := Aside0.mk hC
  clear hk hv hC
  obtain ⟨R, hR⟩ : ∃ R, allbits n8 (rot h) fl p h = R := ⟨_, rfl⟩
  rw [hR]
  have HRR := Aside0.mk hR
  clear hR
  go_enter Try.func26, Try.ntmps26
  go_wp2_with (first | (go_at_call 13; (with_reducible refine (bloom_Hash.calls k key 3164544308 h _ HK.out).mono ?_); rintro e w1 ⟨rfl, ⟨nd, rfl⟩⟩))
  go_loop [9, 19] (fun v9 v19 => ∃ (j : Nat) (hj : Int), v9 = .int .u32 hj ∧ v19 = .int .i64 (j : Int) ∧ j ≤ p ∧ 0 ≤ hj ∧ hj < 4294967296 ∧ Aside0 (allbits n8 (rot h) fl (p - j) hj = R)) (fun _ v19 => p - (intOf v19).toNat)
  case atStart => exact ⟨0, h, rfl, rfl, by omega, h0, h1, ⟨HRR.out⟩⟩
  case round =>
    obtain ⟨j, hj, rfl, rfl, hjp, hj0, hj1, HF⟩ := hrel
    by_cases hlt : j < p
    · have hm0 : 0 ≤ hj % n8 := Int.emod_nonneg _ (by omega)
      have hm1 : hj % n8 < n8 := Int.emod_lt_of_pos _ hn0
      have b1 : decide ((j : Int) < (p : Int)) = true := decide_eq_true (by omega)
      have hf := HF.out
      rw [show p - j = p - (j + 1) + 1 by omega] at hf
      simp only [allbits] at hf
      have hd : Kd.C (Kd.int .u8) (w.drewN nd) A n fl := Kd.C_drewN HO.out nd
      have HD := Aside0.mk hd
      have HVD := Aside0.mk (show (w.drewN nd).cell? ⟨gv, 0, none⟩ = some (.slice A n cap) from HV.out)
      clear hd
      cases hg : getv (rd fl (hj % n8 / 8)) (hj % n8) with
      | true =>
        rw [hg, if_pos rfl] at hf
        have HF2 := Aside0.mk hf
        have HGG := Aside0.mk hg
        clear hf hg
        go_wp2_with (first | (go_at_call 31; (with_reducible refine (may1_calls gv n cap A fl (hj % n8) _ HVD.out HD.out hm0 (by omega) (by omega)).mono ?_); rintro e w2 ⟨rfl, rfl⟩; rw [HGG.out]))
        go_round
        case rel => exact ⟨j + 1, (hj + rot h) % 4294967296, rfl, by go_num, by omega, by omega, by omega, HF2⟩
        case measure => simp [intOf]; omega
      | false =>
        rw [hg, if_neg Bool.false_ne_true] at hf
        subst hf
        have HGG := Aside0.mk hg
        clear hg
        go_wp2_with (first | (go_at_call 31; (with_reducible refine (may1_calls gv n cap A fl (hj % n8) _ HVD.out HD.out hm0 (by omega) (by omega)).mono ?_); rintro e w2 ⟨rfl, rfl⟩; rw [HGG.out]))
        go_ret
        exact ⟨rfl, Drawn0.step (Drawn0.refl _) _⟩
    · obtain rfl : j = p := by omega
      have hf := HF.out
      rw [Nat.sub_self] at hf
      simp only [allbits] at hf
      subst hf
      clear HF HRR
      go_wp2
      go_ret
      exact ⟨rfl, Drawn0.step (Drawn0.refl _) _⟩
theorem row_split {w : World} {base : Nat} {ok : Nat → Prop} {v : Value} {xs : List Int} (h : Kd.R (Kd.int .u8) 5 w base ok v xs) (hne : 0 < xs.length) : ∃ g cap, v = .slice (some ⟨g, 0, none⟩) xs.length cap ∧ base ≤ g ∧ g < w.heap.size ∧ w.ownsRow base 5 1 (.slice (some ⟨g, 0, none⟩) xs.length cap) xs.length (nums .u8 xs) := by
  have ho : w.ownsRow base 5 1 v xs.length (nums .u8 xs) := Kd.own_of_R (enc := Value.int .u8) (h1 := fun _ => rfl) h
  rcases ho.2 with ⟨rfl, h2⟩ | ⟨g, cap, cur, rfl, hg, hh, _⟩
  · exfalso
    have : xs = [] := by simpa [nums] using h2
    simp [this] at hne
  · exact ⟨g, cap, rfl, hg, blk_lt hh, ho⟩
def bloom_Make.keys (k : Nat) (n8 : Int) (p : Nat) : List ByteArray → List Int → Option (List Int)
  | [], f => some f
  | key :: r, f => (bloom_Hash.f k key 3164544308).bind fun h => if 0 ≤ h then (if h < 4294967296 then bloom_Make.keys k n8 p r (putbits n8 (rot h) p h f) else none) else none
theorem bloom_Make.keys_mono (k : Nat) (n8 : Int) (p : Nat) : ∀ l f, LeO (bloom_Make.keys k n8 p l f) (bloom_Make.keys (k + 1) n8 p l f)
  | [], _ => LeO.refl _
  | key :: r, f => by
    simp only [bloom_Make.keys]
    refine LeO.bind (bloom_Hash.mono _ _ _) fun h => LeO.ite (LeO.ite (bloom_Make.keys_mono k n8 p r _) (LeO.refl _)) (LeO.refl _)
def bloom_Make.bytes (len : Nat) (bits : Int) : Int := (mx (len * bits) 64 + 7) / 8
def bloom_Make.f (k : Nat) (l0 : List ByteArray) (a1 : Int) : Option (List Int × Int) := (bloom_Probes.f a1).bind fun t => if t.2 = 0 then (if 1 ≤ a1 ∧ a1 ≤ 64 ∧ 0 ≤ t.1 ∧ t.1 ≤ 30 ∧ l0.length ≤ 1048576 then
  (bloom_Make.keys k (8 * bloom_Make.bytes l0.length a1) t.1.toNat l0 ((List.replicate (bloom_Make.bytes l0.length a1 + 1).toNat 0).set (bloom_Make.bytes l0.length a1).toNat (t.1 % 256))).bind fun r => some (r, 0) else none) else some ([], t.2)
theorem bloom_Make.mono : ∀ l0 a1 k, LeO (bloom_Make.f k l0 a1) (bloom_Make.f (k + 1) l0 a1) := by
  intro l0 a1 k
  unfold bloom_Make.f
  refine LeO.bind (LeO.refl _) fun t => LeO.ite (LeO.ite (LeO.bind (bloom_Make.keys_mono _ _ _ _ _) fun _ => LeO.refl _) (LeO.refl _)) (LeO.refl _)
set_option maxHeartbeats 4000000 in
set_option maxRecDepth 100000 in
theorem bloom_Make.calls (k : Nat) (A0 : Option Addr) (c0 : Nat) (l0 : List ByteArray) (a1 : Int) (r1 : List Int) (r2 : Int) (w : World) (hr0 : Kd.C Kd.string w A0 l0.length l0) (hc0 : l0.length ≤ c0) (h : bloom_Make.f k l0 a1 = some (r1, r2)) :
    Calls Try.prog 15 #[.slice A0 l0.length c0, .int .i64 a1] w fun e w' => ∃ v0_ : Value, e = .returned (.tuple #[v0_, .int .i64 r2]) ∧ Kd.R (Kd.int .u8) 5 w' w.heap.size (fun _ => True) v0_ r1 ∧ Below w.heap.size w w' := by
  unfold bloom_Make.f at h
  obtain ⟨⟨p, er⟩, hp, H⟩ := Option.bind_eq_some_iff.1 h
  clear h
  simp only [] at H
  have HP := Aside0.mk hp
  clear hp
  have HR := Aside0.mk hr0
  have HC := Aside0.mk hc0
  clear hr0 hc0
  by_cases he : er = 0
  · subst he
    rw [if_pos rfl] at H
    by_cases hb : 1 ≤ a1 ∧ a1 ≤ 64 ∧ 0 ≤ p ∧ p ≤ 30 ∧ l0.length ≤ 1048576
    · rw [if_pos hb] at H
      obtain ⟨b1, b2, b3, b4, b5⟩ := hb
      obtain ⟨p, rfl⟩ := Int.eq_ofNat_of_zero_le b3
      obtain ⟨rr, hk, H2⟩ := Option.bind_eq_some_iff.1 H
      simp only [Option.some.injEq, Prod.mk.injEq] at H2
      obtain ⟨rfl, rfl⟩ := H2
      have HK := Aside0.mk hk
      clear hk H
      have m0 : 0 ≤ (l0.length : Int) * a1 := Int.mul_nonneg (by omega) (by omega)
      have m1 : (l0.length : Int) * a1 ≤ 1048576 * 64 := Int.mul_le_mul (by omega) b2 (by omega) (by omega)
      have q0 : 64 ≤ mx ((l0.length : Int) * a1) 64 := by unfold mx; split <;> omega
      have q1 : mx ((l0.length : Int) * a1) 64 ≤ 67108864 := by unfold mx; split <;> omega
      have HQ := Aside0.mk (show bloom_Make.bytes l0.length a1 = (mx ((l0.length : Int) * a1) 64 + 7) / 8 from rfl)
      have hinfo : (Try.prog.info? 5).map (fun i => (i.zero, i.size, i.bytes)) = some (some (.int .u8 0), 1, 1) := by kernel_rfl
      have HI := Aside0.mk hinfo
      have hM : wrap64 ((l0.length : Int) * a1) = (l0.length : Int) * a1 := by
        generalize (l0.length : Int) * a1 = z at *
        unfold wrap64; omega
      clear hinfo
      have HM0 := Aside0.mk m0
      clear m0 m1
      generalize hM2 : (l0.length : Int) * a1 = M at q0 q1 HQ hM
      have HM2 := Aside0.mk hM2
      rw [← hM2] at hM
      clear hM2
      have hM3 : wrap64 ((l0.length : Int) * a1) = M := by rw [hM, HM2.out]
      clear hM
      have hQ0 : mx M 64 = if M < 64 then 64 else M := by unfold mx; rfl
      generalize hQ1 : mx M 64 = Q at q0 q1 HQ hQ0
      have hQ : (if M < 64 then 64 else M) = Q := hQ0.symm
      clear hQ0 hQ1
      obtain ⟨B, hB⟩ : ∃ B : Nat, (Q + 7) / 8 = (B : Int) := ⟨((Q + 7) / 8).toNat, by omega⟩
      have B0 : 8 ≤ B := by omega
      have B1 : B ≤ 8388609 := by omega
      have hkk := HK.out
      have hbb := HQ.out
      rw [hB] at hbb
      rw [hbb, show ((B : Int) + 1).toNat = B + 1 by omega, Int.toNat_natCast, Int.toNat_natCast, show (p : Int) % 256 = p by omega] at hkk
      have HK2 := Aside0.mk hkk
      clear hkk hbb HK HQ q0 q1
      go_enter Try.func15, Try.ntmps15
      go_wp2_with (first
        | (go_at_call 10; (with_reducible refine (bloom_Probes.calls a1 (p : Int) 0 _ HP.out).mono ?_); rintro e w1 ⟨rfl, hbl⟩; have HB1 := Aside0.mk hbl; clear hbl)
        | ((with_reducible refine gate_dst (N := 29) rfl ?_); refine Kd.R_make (Kd.int .u8) (w0 := w) w.heap.size 5 rfl rfl 33 (.tmp 28) (.tmp 28) rfl ((B : Int) + 1) rfl rfl Try.underlying33 (.int .u8 0) 1 HI.out rfl (by decide) (by decide) 0 (ok := fun _ => True) (okp := fun _ => False) rfl (fun _ h => h.elim) trivial (by omega) (by omega) HB1.out HB1.out.size ?_; intro v2 w2 ho hb hg hat; rw [show ((B : Int) + 1).toNat = B + 1 by omega] at ho; have HB2 := Aside0.mk hb; obtain ⟨g, cap, e2, g1, g2, own⟩ := row_split ho (by simp); subst e2; simp only [List.length_replicate] at own ⊢; obtain ⟨oc, of_⟩ := own_at own (B : Int) (by omega) (by omega); rw [Int.toNat_natCast] at oc of_; have HO2 := Aside0.mk own; clear ho hb hg hat own))
      obtain ⟨o1, _⟩ := own_store HO2.out (B : Int) (p : Int)
      rw [Int.toNat_natCast] at o1
      have gvne : w2.heap.size ≠ g := by omega
      have hcell : ((w2.setCell ⟨g, B, none⟩ (.int .u8 (p : Int))).alloc (Obj.cells #[Value.slice (some ⟨g, 0, none⟩) (B + 1) cap] 33)).cell? ⟨w2.heap.size, 0, none⟩ = some (Value.slice (some ⟨g, 0, none⟩) (B + 1) cap) := by
        have hs : (w2.setCell ⟨g, B, none⟩ (.int .u8 (p : Int))).heap.size = w2.heap.size := by simp
        have := cell_one_new (w2.setCell ⟨g, B, none⟩ (.int .u8 (p : Int))) (Value.slice (some ⟨g, 0, none⟩) (B + 1) cap) 33 0 (Value.slice (some ⟨g, 0, none⟩) (B + 1) cap) rfl
        rw [hs] at this
        simpa [Addr.add] using this
      have hbw : Below w.heap.size w ((w2.setCell ⟨g, B, none⟩ (.int .u8 (p : Int))).alloc (Obj.cells #[Value.slice (some ⟨g, 0, none⟩) (B + 1) cap] 33)) := below_alloc (HB2.out.setCell (p := ⟨g, B, none⟩) g1 _) _
      have HO3 := Aside0.mk (own_alloc o1 (Obj.cells #[Value.slice (some ⟨g, 0, none⟩) (B + 1) cap] 33))
      have HV3 := Aside0.mk hcell
      have HB3 := Aside0.mk hbw
      have HNE := Aside0.mk gvne
      clear o1 gvne hcell hbw oc of_ HO2
      generalize (w2.setCell ⟨g, B, none⟩ (.int .u8 (p : Int))).alloc (Obj.cells #[Value.slice (some ⟨g, 0, none⟩) (B + 1) cap] 33) = w3 at *
      generalize w2.heap.size = gv at *
      go_loopw [37] (fun v37 wr => ∃ (j : Nat) (fj : List Int), v37 = .int .i64 (j : Int) ∧ j ≤ l0.length ∧ Aside0 (bloom_Make.keys k (8 * (B : Int)) p (l0.drop j) fj = some rr) ∧ Aside0 (wr.ownsRow w.heap.size 5 1 (.slice (some ⟨g, 0, none⟩) (B + 1) cap) (B + 1) (nums .u8 fj)) ∧ Aside0 (wr.cell? ⟨gv, 0, none⟩ = some (.slice (some ⟨g, 0, none⟩) (B + 1) cap)) ∧ Aside0 (Below w.heap.size w wr)) (fun v37 _ => l0.length - (intOf v37).toNat)
      case atStart => exact ⟨0, _, rfl, by omega, ⟨HK2.out⟩, HO3, HV3, HB3⟩
      case round =>
        clear HK2 HO3 HV3 HB3
        obtain ⟨j, fj, rfl, hjl, HF, HO, HV, HB⟩ := hrel
        have hv := HV.out
        by_cases hlt : j < l0.length
        · obtain ⟨ad, e1, hx⟩ := Kd.at_string (Kd.C_below HR.out HB.out) (j : Int) (by omega) (by omega)
          subst e1
          rw [Int.toNat_natCast] at hx
          have hd : l0.drop j = rdOf ByteArray.empty l0 (j : Int) :: l0.drop (j + 1) := by
            rw [List.drop_eq_getElem_cons hlt]
            congr 1
            simp [rdOf, List.getD_eq_getElem?_getD, List.getElem?_eq_getElem hlt]
          have hf := HF.out
          rw [hd] at hf
          clear hd HF
          generalize rdOf ByteArray.empty l0 (j : Int) = key at *
          simp only [bloom_Make.keys] at hf
          obtain ⟨h, hh, hf2⟩ := Option.bind_eq_some_iff.1 hf
          by_cases c1 : 0 ≤ h
          · by_cases c2 : h < 4294967296
            · rw [if_pos c1, if_pos c2] at hf2
              have HF2 := Aside0.mk hf2
              have HH := Aside0.mk hh
              clear hf hf2 hh
              have b9 : decide ((j : Int) < (l0.length : Int)) = true := decide_eq_true (by omega)
              go_wp2_with (first | (go_at_call 26; (with_reducible refine (eachmake_calls k key (8 * (B : Int)) p h gv g (B + 1) cap w.heap.size fj _ HH.out c1 c2 (by omega) (by omega) (by omega) (by omega) HV.out HNE.out HO.out).mono ?_); rintro e w4 ⟨rfl, ho4, hg4⟩; have HO4 := Aside0.mk ho4; have HG4 := Aside0.mk hg4; clear ho4 hg4))
              go_roundw
              case rel => exact ⟨j + 1, _, by go_num, by omega, HF2, HO4, ⟨grown_cell HG4.out HNE.out HV.out⟩, ⟨HB.out.grown HG4.out HB.out.size (fun q hq => by cases hq; exact g1)⟩⟩
              case measure => simp [intOf]; omega
            · rw [if_pos c1, if_neg c2] at hf2
              cases hf2
          · rw [if_neg c1] at hf2
            cases hf2
        · obtain rfl : j = l0.length := by omega
          have hf := HF.out
          rw [List.drop_length] at hf
          simp only [bloom_Make.keys, Option.some.injEq] at hf
          have HF2 := Aside0.mk hf
          clear hf HF
          go_wp2
          go_ret2
          refine ⟨_, rfl, ?_, HB.out⟩
          rw [← HF2.out]
          have hl : fj.length = B + 1 := by have := HO.out.1; simpa [nums] using this
          exact Kd.R_of_own (enc := Value.int .u8) (h1 := fun _ => rfl) (by rw [hl]; exact HO.out) (fun _ _ => trivial)
    · rw [if_neg hb] at H
      cases H
  · rw [if_neg he] at H
    simp only [Option.some.injEq, Prod.mk.injEq] at H
    obtain ⟨rfl, rfl⟩ := H
    have b0 : (er == 0) = false := beq_eq_false_iff_ne.2 he
    have b1 : (er != 0) = true := bne_iff_ne.2 he
    clear he
    go_enter Try.func15, Try.ntmps15
    go_wp2_with (first | (go_at_call 10; (with_reducible refine (bloom_Probes.calls a1 p er _ HP.out).mono ?_); rintro e w1 ⟨rfl, hbl⟩; have HB1 := Aside0.mk hbl; clear hbl))
    go_ret2
    exact ⟨_, rfl, Kd.R_nil _ _ _ _ _, HB1.out⟩
def bloom_May.f (k : Nat) (l0 : List Int) (a1 : ByteArray) : Option Bool := (bloom_right.f l0).bind fun t => if t = true then (if 2 ≤ l0.length ∧ l0.length ≤ 268435456 ∧ 1 ≤ rd l0 ((l0.length - 1 : Nat) : Int) ∧ rd l0 ((l0.length - 1 : Nat) : Int) ≤ 30 then
  ((bloom_Hash.f k a1 3164544308).bind fun h => if 0 ≤ h then (if h < 4294967296 then some (allbits (8 * ((l0.length - 1 : Nat) : Int)) (rot h) l0 (rd l0 ((l0.length - 1 : Nat) : Int)).toNat h) else none) else none) else none) else some true
theorem bloom_May.mono : ∀ l0 a1 k, LeO (bloom_May.f k l0 a1) (bloom_May.f (k + 1) l0 a1) := by
  intro l0 a1 k
  unfold bloom_May.f
  refine LeO.bind (LeO.refl _) fun t => LeO.ite (LeO.ite (LeO.bind (bloom_Hash.mono _ _ _) fun _ => LeO.refl _) (LeO.refl _)) (LeO.refl _)
set_option maxHeartbeats 4000000 in
set_option maxRecDepth 100000 in
theorem bloom_May.calls (k : Nat) (A0 : Option Addr) (c0 : Nat) (l0 : List Int) (a1 : ByteArray) (r : Bool) (w : World) (hr0 : Kd.C (Kd.int .u8) w A0 l0.length l0) (hc0 : l0.length ≤ c0) (h : bloom_May.f k l0 a1 = some r) :
    Calls Try.prog 20 #[.slice A0 l0.length c0, .string a1] w fun e w' => e = .returned (.bool r) ∧ Below w.heap.size w w' := by
  unfold bloom_May.f at h
  obtain ⟨t, ht, H⟩ := Option.bind_eq_some_iff.1 h
  clear h
  have HT := Aside0.mk ht
  have HC := Aside0.mk hc0
  clear ht hc0
  have hA : Kd.C (Kd.int .u8) (w.alloc (Obj.cells #[Value.slice A0 l0.length c0] 33)) A0 l0.length l0 := Kd.C_alloc hr0 _
  have hcell : (w.alloc (Obj.cells #[Value.slice A0 l0.length c0] 33)).cell? ⟨w.heap.size, 0, none⟩ = some (Value.slice A0 l0.length c0) := by
    simp [Addr.add]
  have hbl : Below w.heap.size w (w.alloc (Obj.cells #[Value.slice A0 l0.length c0] 33)) := below_alloc (Below.refl _ _) _
  have HA := Aside0.mk hA
  have HV := Aside0.mk hcell
  have HB := Aside0.mk hbl
  clear hr0 hA hcell hbl
  cases t with
  | false =>
    rw [if_neg Bool.false_ne_true] at H
    obtain rfl := Option.some.inj H
    go_enter Try.func20, Try.ntmps20
    go_wp2_with (first | (go_at_call 29; (with_reducible refine (bloom_right.calls A0 c0 l0 false _ HA.out HC.out HT.out).mono ?_); rintro e w2 ⟨rfl, ⟨nd, rfl⟩⟩))
    go_ret
    exact ⟨rfl, pw_below_drewN HB.out _⟩
  | true =>
    rw [if_pos rfl] at H
    by_cases hb : 2 ≤ l0.length ∧ l0.length ≤ 268435456 ∧ 1 ≤ rd l0 ((l0.length - 1 : Nat) : Int) ∧ rd l0 ((l0.length - 1 : Nat) : Int) ≤ 30
    · rw [if_pos hb] at H
      obtain ⟨b1, b2, b3, b4⟩ := hb
      obtain ⟨hh, hk, H⟩ := Option.bind_eq_some_iff.1 H
      by_cases c1 : 0 ≤ hh
      · by_cases c2 : hh < 4294967296
        · rw [if_pos c1, if_pos c2] at H
          obtain rfl := Option.some.inj H
          have HK := Aside0.mk hk
          clear H hk
          go_enter Try.func20, Try.ntmps20
          have hv := HV.out
          obtain ⟨p, hp⟩ := Int.eq_ofNat_of_zero_le (show 0 ≤ rd l0 ((l0.length - 1 : Nat) : Int) by omega)
          obtain ⟨N, hN⟩ : ∃ N : Nat, l0.length - 1 = N := ⟨_, rfl⟩
          rw [hN] at b3 b4 hp ⊢
          rw [hp] at b3 b4 ⊢
          have HP := Aside0.mk hp
          clear hp
          rw [Int.toNat_natCast]
          generalize hR : allbits (8 * (N : Int)) (rot hh) l0 p hh = R
          have HR := Aside0.mk hR
          clear hR
          have hw1 : wrap64 ((l0.length : Int) - 1) = N := by unfold wrap64; omega
          have hw2 : wrap64 (8 * (N : Int)) = 8 * (N : Int) := by unfold wrap64; omega
          have hw3 : 8 * (N : Int) % 4294967296 = 8 * (N : Int) := by omega
          go_wp2_with (first
            | (go_at_call 29; (with_reducible refine (bloom_right.calls A0 c0 l0 true _ HA.out HC.out HT.out).mono ?_); rintro e w2 ⟨rfl, ⟨nd, rfl⟩⟩; have HA2 := Aside0.mk (Kd.C_drewN HA.out nd); have HV2 := Aside0.mk (show ((w.alloc (Obj.cells #[Value.slice A0 l0.length c0] 33)).drewN nd).cell? ⟨w.heap.size, 0, none⟩ = some (.slice A0 l0.length c0) from HV.out); obtain ⟨ad, e1, hx⟩ := Kd.at_int HA2.out (N : Int) (by omega) (by omega); subst e1; rw [HP.out] at hx; simp only [Int.toNat_natCast] at hx; have hx2 : (w.alloc (Obj.cells #[Value.slice (some ad) l0.length c0] 33)).cell? (ad.add N) = some (Value.int .u8 (p : Int)) := hx; clear hx)
            | (go_at_call 26; (with_reducible refine (eachmay_calls k a1 (8 * ((l0.length : Int) - 1)) p hh w.heap.size l0.length c0 (some ad) l0 _ HK.out c1 c2 (by omega) (by omega) (by omega) (by omega) HV2.out HA2.out).mono ?_); rintro e w3 ⟨rfl, ⟨nd3, rfl⟩⟩; rw [show 8 * ((l0.length : Int) - 1) = 8 * (N : Int) by omega, HR.out]))
          go_ret
          exact ⟨rfl, pw_below_drewN HB.out _⟩
        · rw [if_pos c1, if_neg c2] at H
          cases H
      · rw [if_neg c1] at H
        cases H
    · rw [if_neg hb] at H
      cases H

end Go.Proofs.Yticbfcfpchongaa.G
