/- Contracts of functions and plain laws, several texts of the session put together by its program. -/
import Derived.Test.YtmpkigambfghgaaDoorProg
import Derived.Below
import Derived.Deep.Draws
import Derived.Deep.AppendLies
import Derived.Maps.AppendAt
import Derived.OwnWalk
import Derived.Laws.BytesArg
import Derived.Laws.MakeOwn
import Derived.Laws.OwnMore
import Derived.Deep.OwnRows
import Derived.Tactics
import Derived.Lib.ConvBytes
import Derived.Laws.Slices
import Derived.WalkKit
import Derived.KernelRfl
import Derived.RowKit3
import Derived.Deep.LoopGhost
import Derived.Deep.QuietTactic
import Derived.BigQuiet
import Derived.WideLaws
import Derived.Deep.DeepCutAuto
import Derived.Deep.CutBlock
import Derived.Deep.RegionHeld3
import Derived.Laws.Rows
import Derived.Lib.AppendStr
import Derived.ArgAppend
import Derived.Laws.IdiomCopy
import Derived.OrdersHeld
import Derived.Laws.BitsLemmas
import Derived.RowKit
import Derived.Test.YtmpkigambfghgaaDoorWWords
import Derived.Test.YtmpkigambfghgaaDoorWLast
import Derived.Test.YtmpkigambfghgaaDoorWTab
import Derived.Test.YtmpkigambfghgaaDoorWFour
import Derived.Test.YtmpkigambfghgaaDoorWQPut
import Derived.Test.YtmpkigambfghgaaDoorWApart
import Derived.Test.YtmpkigambfghgaaDoorWArr
import Derived.Test.YtmpkigambfghgaaDoorWZeros
import Derived.Test.YtmpkigambfghgaaDoorWFoot
import Derived.Test.YtmpkigambfghgaaDoorWKept
import Derived.Test.YtmpkigambfghgaaDoorWShare
import Derived.Test.YtmpkigambfghgaaDoorWN
import Derived.Test.YtmpkigambfghgaaDoorWFootNe
import Derived.Test.YtmpkigambfghgaaDoorWAt
import Derived.Test.YtmpkigambfghgaaDoorWEqStruct
import Derived.Test.YtmpkigambfghgaaDoorWRepsOne
import Derived.Test.YtmpkigambfghgaaDoorWInv
import Derived.Test.YtmpkigambfghgaaDoorWInvWords
import Derived.Test.YtmpkigambfghgaaDoorWGuard
import Derived.Test.YtmpkigambfghgaaDoorWNEv
import Derived.Test.YtmpkigambfghgaaDoorWMore
import Derived.Test.YtmpkigambfghgaaDoorQ0

/- Contracts typed by hand: journal: what a record of any length would cost -/
namespace Go.Proofs.YtmpkigambfghgaaDoor.G
open Go.RowKit Go.Proofs.YtmpkigambfghgaaDoorW.PrintWords Go.Proofs.YtmpkigambfghgaaDoorW.PrintLast Go.Proofs.YtmpkigambfghgaaDoorW.PrintMore
attribute [local go_sem] max2_int min2_int max_two min_two max_three min_three max_four min_four
set_option linter.unusedVariables false
set_option linter.unusedSimpArgs false

/-! journal: what a record of any length would cost -/
def costI (blk p : Nat) (n : Int) : Int := if 0 ≤ n ∧ n ≤ 2097152 then ((costR blk p n.toNat : Nat) : Int) else 0
theorem q_same {P : Program} {f : FuncId} {args : Array Value} {w : World} {n : Nat} {v : Value} (h : Calls P f args (w.drewN n) fun e w' => e = .returned v ∧ w.drewN n = w') : Calls P f args (w.drewN n) fun e w'' => e = .returned v ∧ ∃ m, w'' = w.drewN m :=
  h.mono fun _ _ ⟨he, hm⟩ => ⟨he, n, hm.symm⟩
set_option maxHeartbeats 2000000 in
theorem wr_costI (g blk : Nat) (size : Nat) (n : Int) (w : World) (h1 : 32 ≤ blk) (h2 : blk ≤ 32768) (hs : size ≤ 4611686018427387904 + 1099511627776) (h : WrAt w g (blk : Int) (size : Int)) :
    Calls Tryd.prog 12 #[.pointer (some ⟨g, 0, none⟩), .int .i64 n] w fun e w' => e = .returned (.int .i64 (costI blk (size % blk) n)) ∧ ∃ m, w' = w.drewN m := by
  unfold costI
  by_cases hn : 0 ≤ n ∧ n ≤ 2097152
  · rw [if_pos hn]
    obtain ⟨m, rfl⟩ := Int.eq_ofNat_of_zero_le hn.1
    exact wr_costD g blk size m w h1 h2 hs h (by omega)
  · rw [if_neg hn]
    have H := Aside0.mk h
    clear h
    by_cases hz : n < 0
    · have hc0 : decide (n < 0) = true := decide_eq_true hz
      clear hn
      go_enter Tryd.func12, Tryd.ntmps12
      go_wp2_with fail
      (with_reducible refine (wr_none g _ _ (by omega) _ H.out).mono ?_)
      rintro e w1 ⟨rfl, rfl⟩
      go_wp2
      go_ret
      exact ⟨rfl, 0, rfl⟩
    · have hc0 : decide (n < 0) = false := decide_eq_false hz
      have hc1 : decide (n > 2097152) = true := decide_eq_true (by omega)
      clear hn
      go_enter Tryd.func12, Tryd.ntmps12
      go_wp2_with fail
      (with_reducible refine (wr_none g _ _ (by omega) _ H.out).mono ?_)
      rintro e w1 ⟨rfl, rfl⟩
      go_wp2
      go_ret
      exact ⟨rfl, 0, rfl⟩
set_option maxHeartbeats 2000000 in
theorem refcostI (blk size : Nat) (n : Int) (w : World) (h1 : 32 ≤ blk) (h2 : blk ≤ 32768) (hs : size ≤ 4611686018427387904 + 1099511627776) :
    Calls Tryd.prog 16 #[.int .i64 (blk : Int), .int .i64 (size : Int), .int .i64 n] w fun e w' => e = .returned (.int .i64 (costI blk (size % blk) n)) ∧ w = w' := by
  unfold costI
  by_cases hn : 0 ≤ n ∧ n ≤ 2097152
  · rw [if_pos hn]
    obtain ⟨m, rfl⟩ := Int.eq_ofNat_of_zero_le hn.1
    exact refcost_calls blk size m w h1 h2 hs (by omega)
  · rw [if_neg hn]
    by_cases hz : n < 0
    · have hc0 : decide (n < 0) = true := decide_eq_true hz
      clear hn
      go_enter Tryd.func16, Tryd.ntmps16
      go_wp2
      go_ret
      exact ⟨rfl, rfl⟩
    · have hc0 : decide (n < 0) = false := decide_eq_false hz
      have hc1 : decide (n > 2097152) = true := decide_eq_true (by omega)
      clear hn
      go_enter Tryd.func16, Tryd.ntmps16
      go_wp2
      go_ret
      exact ⟨rfl, rfl⟩

end Go.Proofs.YtmpkigambfghgaaDoor.G

/- Contracts typed by hand: journal: the document's piece -/
namespace Go.Proofs.YtmpkigambfghgaaDoor.G
open Go.RowKit Go.Proofs.YtmpkigambfghgaaDoorW.PrintWords Go.Proofs.YtmpkigambfghgaaDoorW.PrintLast Go.Proofs.YtmpkigambfghgaaDoorW.PrintMore
attribute [local go_sem] max2_int min2_int max_two min_two max_three min_three max_four min_four
set_option linter.unusedVariables false
set_option linter.unusedSimpArgs false

/-! journal: the document's piece -/
theorem fixed_step (k v i n : Nat) (out : List Int) (hv : v < 18446744073709551616) (hi : i < n) (hn : n ≤ 8) (ho : out.length ≤ 8) : moraineref01_Fixed.l0 (k + 1) (v : Int) (n : Int) out (i : Int) = moraineref01_Fixed.l0 k ((v / 256 : Nat) : Int) (n : Int) (out ++ [((v % 256 : Nat) : Int)]) ((i + 1 : Nat) : Int) := by
  have e1 : Int.tdiv (v : Int) 256 = ((v / 256 : Nat) : Int) := by rw [Int.tdiv_eq_ediv_of_nonneg (by omega)]; omega
  have e2 : IntKind.u64.wrap ((v / 256 : Nat) : Int) = ((v / 256 : Nat) : Int) := by rw [Go.IntKind.wrap_u64]; omega
  have e3 : wrap64 ((i : Int) + 1) = ((i + 1 : Nat) : Int) := (wr _ (by omega) (by omega)).trans (by omega)
  rw [moraineref01_Fixed.l0, if_pos (by omega), if_pos (by omega), e1, e2, e3, show (v : Int) % 256 = ((v % 256 : Nat) : Int) by omega]
theorem fixed_end (k v n : Nat) (out : List Int) : moraineref01_Fixed.l0 (k + 1) (v : Int) (n : Int) out (n : Int) = some out := by
  rw [moraineref01_Fixed.l0, if_neg (by omega)]
theorem fixed4_eq (k x : Nat) (hx : x < 4294967296) : moraineref01_Fixed.f (k + 5) (x : Int) 4 = some (fourJ x) := by
  unfold moraineref01_Fixed.f
  have h1 := fixed_step (k + 4) x 0 4 [] (by omega) (by omega) (by omega) (by simp)
  have h2 := fixed_step (k + 3) (x / 256) 1 4 ([] ++ [((x % 256 : Nat) : Int)]) (by omega) (by omega) (by omega) (by simp)
  have h3 := fixed_step (k + 2) (x / 256 / 256) 2 4 ([] ++ [((x % 256 : Nat) : Int)] ++ [((x / 256 % 256 : Nat) : Int)]) (by omega) (by omega) (by omega) (by simp)
  have h4 := fixed_step (k + 1) (x / 256 / 256 / 256) 3 4 ([] ++ [((x % 256 : Nat) : Int)] ++ [((x / 256 % 256 : Nat) : Int)] ++ [((x / 256 / 256 % 256 : Nat) : Int)]) (by omega) (by omega) (by omega) (by simp)
  have h5 := fixed_end k (x / 256 / 256 / 256 / 256) 4 ([] ++ [((x % 256 : Nat) : Int)] ++ [((x / 256 % 256 : Nat) : Int)] ++ [((x / 256 / 256 % 256 : Nat) : Int)] ++ [((x / 256 / 256 / 256 % 256 : Nat) : Int)])
  refine (h1.trans (h2.trans (h3.trans (h4.trans h5)))).trans ?_
  simp [fourJ, Nat.div_div_eq_div_mul]
theorem fixed2_eq (k x : Nat) (hx : x < 4294967296) : moraineref01_Fixed.f (k + 3) (x : Int) 2 = some (twoJ x) := by
  unfold moraineref01_Fixed.f
  have h1 := fixed_step (k + 2) x 0 2 [] (by omega) (by omega) (by omega) (by simp)
  have h2 := fixed_step (k + 1) (x / 256) 1 2 ([] ++ [((x % 256 : Nat) : Int)]) (by omega) (by omega) (by omega) (by simp)
  have h3 := fixed_end k (x / 256 / 256) 2 ([] ++ [((x % 256 : Nat) : Int)] ++ [((x / 256 % 256 : Nat) : Int)])
  refine (h1.trans (h2.trans h3)).trans ?_
  simp [twoJ]
theorem refpiece_eq (kind : Nat) (hk : kind < 256) (d : List Int) (hd : Byt d) (hl : d.length ≤ 4194304) : moraineref07_piece.f (10 * d.length + 21) (kind : Int) d = some (pieceJ kind d) := by
  have hs := refsumOf_eq (10 * d.length + 21) (kind : Int) d (by omega) (by omega) hd (by omega) (by omega)
  have hlt := sumN_lt (kind : Int) d
  obtain ⟨t, ht, hm⟩ := Option.bind_eq_some_iff.1 hs
  have e1 : IntKind.u64.wrap ((sumN (kind : Int) d : Nat) : Int) = ((sumN (kind : Int) d : Nat) : Int) := by rw [Go.IntKind.wrap_u64]; omega
  have e2 : IntKind.u64.wrap ((d.length : Nat) : Int) = ((d.length : Nat) : Int) := by rw [Go.IntKind.wrap_u64]; omega
  unfold moraineref07_piece.f
  rw [Option.bind_some, if_pos (by simp; omega), Option.bind_some, show (kind : Int) % 256 = (kind : Int) by omega, List.singleton_append, ht, Option.bind_some, hm, Option.bind_some, e1, e2, show 10 * d.length + 21 = (10 * d.length + 16) + 5 by omega, fixed4_eq _ _ hlt, Option.bind_some]
  rw [show (10 * d.length + 16) + 5 = (10 * d.length + 18) + 3 by omega, fixed2_eq _ _ (by omega), Option.bind_some, if_pos (by simp [fourJ, twoJ]), Option.bind_some, if_pos (by simp [fourJ, twoJ]; omega)]
  simp [pieceJ]

end Go.Proofs.YtmpkigambfghgaaDoor.G

/- Contracts typed by hand: journal: the document's Add by hand -/
namespace Go.Proofs.YtmpkigambfghgaaDoor.G
open Go.RowKit Go.Proofs.YtmpkigambfghgaaDoorW.PrintWords Go.Proofs.YtmpkigambfghgaaDoorW.PrintLast Go.Proofs.YtmpkigambfghgaaDoorW.PrintMore
attribute [local go_sem] max2_int min2_int max_two min_two max_three min_three max_four min_four
set_option linter.unusedVariables false
set_option linter.unusedSimpArgs false

/-! journal: the document's Add by hand -/
set_option maxHeartbeats 16000000 in
set_option maxRecDepth 100000 in
theorem refadd_calls (blk size : Nat) (A : Option Addr) (c : Nat) (r : List Int) (w : World) (h1 : 32 ≤ blk) (h2 : blk ≤ 32768) (hs : size ≤ 4611686018427387904 + 1099511627776) (hr : Kd.C (Kd.int .u8) w A r.length r) (hc : r.length ≤ c) (hb : Byt r) (hl : r.length ≤ 2097152) :
    Calls Tryd.prog 19 #[.int .i64 (blk : Int), .int .i64 (size : Int), .slice A r.length c] w fun e w' => ∃ v, e = .returned v ∧ Kd.R (Kd.int .u8) 5 w' w.heap.size (fun _ => True) v (addR blk (size % blk) r) ∧ Below w.heap.size w w' := by
  have HR := Aside0.mk hr
  have HC := Aside0.mk hc
  have HBY := Aside0.mk hb
  have HLEN := Aside0.mk (show (addR blk (size % blk) r).length ≤ 4194325 by rw [addR_len]; have := costR_le blk h1 (size % blk) r.length; omega)
  obtain ⟨L, hL⟩ : ∃ L, addR blk (size % blk) r = L := ⟨_, rfl⟩
  have HLL := Aside0.mk hL
  rw [hL] at HLEN ⊢
  have hinfo : (Tryd.prog.info? 5).map (fun i => (i.zero, i.size, i.bytes)) = some (some (.int .u8 0), 1, 1) := by kernel_rfl
  have HI := Aside0.mk hinfo
  have hmod : (size : Int) % (blk : Int) = ((size % blk : Nat) : Int) := by omega
  have hblk0 : ((blk : Int) == 0) = false := by simp; omega
  clear hr hc hb hL hinfo
  go_enter Tryd.func19, Tryd.ntmps19
  go_wp2
  go_loopg [2, 7, 8, 9] (r.length + 2) (fun kq v2 v7 v8 v9 wr => ∃ (r' out : List Int) (A' : Option Addr) (c' p : Nat) (first : Bool), v2 = .slice A' r'.length c' ∧ v8 = .int .i64 (p : Int) ∧ v9 = .bool first ∧ p < blk ∧ r'.length ≤ 2097152 ∧ Aside0 (Enough blk kq p r'.length) ∧ Aside0 (r'.length ≤ c') ∧ Aside0 (Byt r') ∧ Aside0 (out ++ addJ blk kq p first r' = L) ∧ Aside0 (Kd.C (Kd.int .u8) w A' r'.length r') ∧ Aside0 (Kd.R (Kd.int .u8) 5 wr w.heap.size (fun _ => True) v7 out) ∧ Aside0 (Below w.heap.size w wr))
  case atStart => exact ⟨r, [], A, c, size % blk, true, rfl, by rw [hmod], rfl, Nat.mod_lt _ (by omega), hl, ⟨enough_self _ _ _⟩, HC, HBY, ⟨HLL.out⟩, HR, ⟨Kd.R_nil _ _ _ _ _⟩, ⟨Below.refl _ _⟩⟩
  case round =>
    clear hmod
    obtain ⟨r', out, A', c', p, first, rfl, rfl, rfl, hp, hrl, HE, HC', HBY', HOUT, HR', HO, HB⟩ := hrel
    clear hl
    cases gk with
    | zero => exact absurd HE.out (by unfold Enough; split <;> omega)
    | succ k =>
      have HL1 := Aside0.mk (show out.length + (addJ blk (k + 1) p first r').length = L.length by rw [← List.length_append, HOUT.out])
      have HOB := Aside0.mk (show out.length ≤ 5000000 by have := HL1.out; have := HLEN.out; omega)
      have hpm := pad_most h1 p
      obtain ⟨pad, hpad⟩ : ∃ pad, padJ blk p = pad := ⟨_, rfl⟩
      obtain ⟨most, hmost⟩ : ∃ most, mostJ blk p = most := ⟨_, rfl⟩
      have hroom : (blk - p < 7 ∧ pad = blk - p ∧ most = blk - 7) ∨ (¬ blk - p < 7 ∧ pad = 0 ∧ most = blk - p - 7) := by
        rw [← hpad, ← hmost]; unfold padJ mostJ; split <;> omega
      have HMN := Aside0.mk (mod_next blk p hp h1)
      rw [hpad, hmost] at hpm HMN
      have HPAD := Aside0.mk hpad
      have HMOST := Aside0.mk hmost
      clear hpad hmost
      have hpad6 := hpm.1
      have hmostb := hpm.2.2
      clear hpm
      obtain ⟨n, hn⟩ : ∃ n, min most r'.length = n := ⟨_, rfl⟩
      have hn1 : n ≤ r'.length := by omega
      have hn2 : n ≤ 32768 := by omega
      obtain ⟨last, hlast⟩ : ∃ last, decide (r'.length ≤ most) = last := ⟨_, rfl⟩
      have hnl : (n = r'.length) ↔ last = true := by rw [← hlast]; simp; omega
      have hq1 : ((n : Int) == (r'.length : Int)) = last := by
        rw [Bool.eq_iff_iff, ← hnl]; simp only [beq_iff_eq, Int.ofNat_inj]
      have hq2 : (n == r'.length) = last := by
        rw [Bool.eq_iff_iff, ← hnl]; simp
      have htl : (r'.take n).length = n := by rw [List.length_take]; omega
      have hdl : (r'.drop n).length = r'.length - n := by rw [List.length_drop]
      obtain ⟨i0, hi0, _, hsz0, _⟩ := info_parts HI.out
      have hcut1 := cut_to (P := Tryd.prog) 22 5 .i64 Tryd.underlying22 hi0 A' r'.length c' (n : Int) (by omega) (by omega) HC'.out
      have hcut2 := cut_from (P := Tryd.prog) 22 5 .i64 Tryd.underlying22 hi0 1 hsz0 A' r'.length c' (n : Int) (by omega) (by omega)
      rw [Int.toNat_natCast] at hcut1 hcut2
      have hrd := Kd.C_drop HR'.out hn1 HC'.out
      rw [show n * (Kd.int .u8).sz = n * 1 from rfl] at hrd
      obtain ⟨A2, hA2⟩ : ∃ A2, (if c' = n then A' else A'.map (·.add (n * 1))) = A2 := ⟨_, rfl⟩
      rw [hA2] at hcut2 hrd
      have HRD := Aside0.mk hrd
      have HDL := Aside0.mk hdl
      have HTL := Aside0.mk htl
      have HPIECE := Aside0.mk (fun (kd : Nat) (hk : kd < 256) (W : World) (hW : Below w.heap.size w W) => moraineref07_piece.calls _ (kd : Int) A' c' (r'.take n) _ W (Kd.C_below (Kd.C_take HR'.out hn1) hW) (by rw [htl]; exact Nat.le_trans hn1 HC'.out) (refpiece_eq kd hk (r'.take n) (HBY'.out.take _) (by rw [htl]; omega)))
      rw [htl] at HPIECE
      have hc2 : n ≤ c' := Nat.le_trans hn1 HC'.out
      have HPL := Aside0.mk (fun kd => show (pieceJ kd (r'.take n)).length = 7 + n by rw [piece_len, htl])
      have HLS := Aside0.mk (show last = true → out ++ List.replicate pad (0 : Int) ++ pieceJ (kindJ first last) (r'.take n) = L by
        intro hl_
        have h3 : r'.length ≤ mostJ blk p := by rw [HMOST.out]; rw [hl_] at hlast; exact of_decide_eq_true hlast
        have h4 : r'.take n = r' := by rw [hnl.2 hl_, List.take_length]
        have h5 := HOUT.out
        unfold addJ at h5
        rw [if_pos h3, HPAD.out] at h5
        rw [hl_, h4, List.append_assoc]
        exact h5)
      have HNX := Aside0.mk (show last = false → (out ++ List.replicate pad (0 : Int) ++ pieceJ (kindJ first last) (r'.take n)) ++ addJ blk k 0 false (r'.drop n) = L ∧ Enough blk k 0 (r'.length - n) ∧ n = most by
        intro hl_
        have h3 : ¬ r'.length ≤ mostJ blk p := by rw [HMOST.out]; rw [hl_] at hlast; exact of_decide_eq_false hlast
        have h4 : mostJ blk p = n := by rw [HMOST.out] at h3 ⊢; omega
        have h5 := HOUT.out
        unfold addJ at h5
        rw [if_neg h3, h4, HPAD.out] at h5
        refine ⟨?_, ?_, ?_⟩
        · rw [hl_]
          simp only [List.append_assoc] at h5 ⊢
          exact h5
        · have := HE.out.next h1 h3
          rwa [h4] at this
        · rw [← h4, HMOST.out])
      have HNN := Aside0.mk hn
      have HNL := Aside0.mk hnl
      clear hlast hrd hA2 hi0 hsz0 htl hdl hnl HOUT hn
      rcases hroom with ⟨hrm, hpe, hme⟩ | ⟨hrm, hpe, hme⟩
      · have b1 : decide ((blk : Int) - (p : Int) < 7) = true := decide_eq_true (by omega)
        rcases Nat.lt_trichotomy r'.length most with hgt | heq | hlt
        · have hn9 := HNN.out
          have b2 : decide (((blk : Int) - 7) > (r'.length : Int)) = true := decide_eq_true (by omega)
          have ht2 : (r'.length : Int) = (n : Int) := by omega
          rw [← ht2] at hcut1 hcut2
          clear ht2
          obtain rfl : last = true := by exact HNL.out.1 (by omega)
          have HLS2 := HLS.out rfl
          clear HNL HLS HNX HNN hn9 hq1 hq2 hgt hme
          have HLS := Aside0.mk HLS2
          clear HLS2
          cases first
          · have HPQ := Aside0.mk (fun (W : World) (hW : Below w.heap.size w W) => (show Calls Tryd.prog 32 #[.int .i64 4, .slice A' n c'] W _ from HPIECE.out 4 (by decide) W hW))
            clear HPIECE
            go_wp2_with (first
              | ((with_reducible refine gate_builtin (b := .append) (xs := #[.tmp 19, .tmp 22]) rfl ?_); at_builtin; refine Kd.R_append_zeros (Kd.int .u8) (w0 := w) w.heap.size rfl (.tmp 19) (.tmp 22) 22 3 5 (.int .u8 0) 1 rfl Tryd.underlying22 Tryd.underlying3 HI.out rfl (by decide) (by omega) u7 out (0 : Int) ((blk : Int) - (p : Int)) (fun _ => True) rfl rfl ?aZ (fun _ _ => trivial) ?aO ?a0 ?aB ?aS ?aL ?_; (case aZ => exact rfl); (case aO => exact HO.out); (case a0 => omega); (case aB => exact HB.out); (case aS => exact HB.out.size); (case aL => have := HOB.out; omega); intro v3 w3 ho hb hg hat; rw [show ((blk : Int) - (p : Int)).toNat = pad by omega] at ho; have HO3 := Aside0.mk ho; have HB3 := Aside0.mk hb; clear ho hb hg hat))
            (with_reducible refine (HPQ.out _ HB3.out).mono ?_)
            rintro e w4 ⟨v4, rfl, ho, hb⟩
            obtain ⟨A4, c4, rfl, hl4, hC4⟩ := Kd.R_reads ho
            have HO4 := Aside0.mk (Kd.R_below HO3.out hb)
            have HB4 := Aside0.mk (below_step HB3.out hb)
            have HC4 := Aside0.mk hC4
            have HPX := Aside0.mk (show (out ++ List.replicate pad (0 : Int)).length ≤ 5000006 by rw [List.length_append, List.length_replicate]; have := HOB.out; omega)
            have HPY := Aside0.mk (HPL.out 4)
            clear ho hb hl4 hC4
            go_wp2_with (first
              | ((with_reducible refine gate_builtin (b := .append) (xs := #[.tmp 40, .tmp 45]) rfl ?_); at_builtin; refine Kd.R_append_rows (Kd.int .u8) (w0 := w) w.heap.size rfl (.tmp 40) (.tmp 45) 22 5 (.int .u8 0) 1 rfl Tryd.underlying22 HI.out rfl (by decide) (by omega) v3 (out ++ List.replicate pad (0 : Int)) (pieceJ 4 (r'.take n)) _ _ _ (fun _ => True) (fun _ => False) rfl rfl ?aO ?aR (fun _ _ h => h) (fun _ h => h.elim) (fun _ _ => trivial) ?aB ?aS ?aL ?_; (case aO => exact HO4.out); (case aR => exact HC4.out); (case aB => exact HB4.out); (case aS => exact HB4.out.size); (case aL => have h1 := HPX.out; have h2 := HPY.out; omega); intro v5 w5 ho hb hg hat; have HO5 := Aside0.mk (show Kd.R (Kd.int .u8) 5 w5 w.heap.size (fun _ => True) v5 L by rw [← HLS.out]; exact ho); have HB5 := Aside0.mk hb; clear ho hb hg hat))
            go_ret
            exact ⟨v5, rfl, HO5.out, HB5.out⟩

          · have HPQ := Aside0.mk (fun (W : World) (hW : Below w.heap.size w W) => (show Calls Tryd.prog 32 #[.int .i64 1, .slice A' n c'] W _ from HPIECE.out 1 (by decide) W hW))
            clear HPIECE
            go_wp2_with (first
              | ((with_reducible refine gate_builtin (b := .append) (xs := #[.tmp 19, .tmp 22]) rfl ?_); at_builtin; refine Kd.R_append_zeros (Kd.int .u8) (w0 := w) w.heap.size rfl (.tmp 19) (.tmp 22) 22 3 5 (.int .u8 0) 1 rfl Tryd.underlying22 Tryd.underlying3 HI.out rfl (by decide) (by omega) u7 out (0 : Int) ((blk : Int) - (p : Int)) (fun _ => True) rfl rfl ?aZ (fun _ _ => trivial) ?aO ?a0 ?aB ?aS ?aL ?_; (case aZ => exact rfl); (case aO => exact HO.out); (case a0 => omega); (case aB => exact HB.out); (case aS => exact HB.out.size); (case aL => have := HOB.out; omega); intro v3 w3 ho hb hg hat; rw [show ((blk : Int) - (p : Int)).toNat = pad by omega] at ho; have HO3 := Aside0.mk ho; have HB3 := Aside0.mk hb; clear ho hb hg hat))
            (with_reducible refine (HPQ.out _ HB3.out).mono ?_)
            rintro e w4 ⟨v4, rfl, ho, hb⟩
            obtain ⟨A4, c4, rfl, hl4, hC4⟩ := Kd.R_reads ho
            have HO4 := Aside0.mk (Kd.R_below HO3.out hb)
            have HB4 := Aside0.mk (below_step HB3.out hb)
            have HC4 := Aside0.mk hC4
            have HPX := Aside0.mk (show (out ++ List.replicate pad (0 : Int)).length ≤ 5000006 by rw [List.length_append, List.length_replicate]; have := HOB.out; omega)
            have HPY := Aside0.mk (HPL.out 1)
            clear ho hb hl4 hC4
            go_wp2_with (first
              | ((with_reducible refine gate_builtin (b := .append) (xs := #[.tmp 40, .tmp 45]) rfl ?_); at_builtin; refine Kd.R_append_rows (Kd.int .u8) (w0 := w) w.heap.size rfl (.tmp 40) (.tmp 45) 22 5 (.int .u8 0) 1 rfl Tryd.underlying22 HI.out rfl (by decide) (by omega) v3 (out ++ List.replicate pad (0 : Int)) (pieceJ 1 (r'.take n)) _ _ _ (fun _ => True) (fun _ => False) rfl rfl ?aO ?aR (fun _ _ h => h) (fun _ h => h.elim) (fun _ _ => trivial) ?aB ?aS ?aL ?_; (case aO => exact HO4.out); (case aR => exact HC4.out); (case aB => exact HB4.out); (case aS => exact HB4.out.size); (case aL => have h1 := HPX.out; have h2 := HPY.out; omega); intro v5 w5 ho hb hg hat; have HO5 := Aside0.mk (show Kd.R (Kd.int .u8) 5 w5 w.heap.size (fun _ => True) v5 L by rw [← HLS.out]; exact ho); have HB5 := Aside0.mk hb; clear ho hb hg hat))
            go_ret
            exact ⟨v5, rfl, HO5.out, HB5.out⟩

        · have hn9 := HNN.out
          have b2 : decide (((blk : Int) - 7) > (r'.length : Int)) = false := decide_eq_false (by omega)
          have b3 : (((blk : Int) - 7) == (r'.length : Int)) = true := by simp; omega
          have ht1 : (((blk : Int) - 7)).toNat = n := by omega
          have ht2 : ((blk : Int) - 7) = (n : Int) := by omega
          rw [← ht2] at hcut1 hcut2
          clear ht1 ht2
          obtain rfl : last = true := by exact HNL.out.1 (by omega)
          have HLS2 := HLS.out rfl
          clear HNL HLS HNX HNN hn9 hq1 hq2 heq hme
          have HLS := Aside0.mk HLS2
          clear HLS2
          cases first
          · have HPQ := Aside0.mk (fun (W : World) (hW : Below w.heap.size w W) => (show Calls Tryd.prog 32 #[.int .i64 4, .slice A' n c'] W _ from HPIECE.out 4 (by decide) W hW))
            clear HPIECE
            go_wp2_with (first
              | ((with_reducible refine gate_builtin (b := .append) (xs := #[.tmp 19, .tmp 22]) rfl ?_); at_builtin; refine Kd.R_append_zeros (Kd.int .u8) (w0 := w) w.heap.size rfl (.tmp 19) (.tmp 22) 22 3 5 (.int .u8 0) 1 rfl Tryd.underlying22 Tryd.underlying3 HI.out rfl (by decide) (by omega) u7 out (0 : Int) ((blk : Int) - (p : Int)) (fun _ => True) rfl rfl ?aZ (fun _ _ => trivial) ?aO ?a0 ?aB ?aS ?aL ?_; (case aZ => exact rfl); (case aO => exact HO.out); (case a0 => omega); (case aB => exact HB.out); (case aS => exact HB.out.size); (case aL => have := HOB.out; omega); intro v3 w3 ho hb hg hat; rw [show ((blk : Int) - (p : Int)).toNat = pad by omega] at ho; have HO3 := Aside0.mk ho; have HB3 := Aside0.mk hb; clear ho hb hg hat))
            (with_reducible refine (HPQ.out _ HB3.out).mono ?_)
            rintro e w4 ⟨v4, rfl, ho, hb⟩
            obtain ⟨A4, c4, rfl, hl4, hC4⟩ := Kd.R_reads ho
            have HO4 := Aside0.mk (Kd.R_below HO3.out hb)
            have HB4 := Aside0.mk (below_step HB3.out hb)
            have HC4 := Aside0.mk hC4
            have HPX := Aside0.mk (show (out ++ List.replicate pad (0 : Int)).length ≤ 5000006 by rw [List.length_append, List.length_replicate]; have := HOB.out; omega)
            have HPY := Aside0.mk (HPL.out 4)
            clear ho hb hl4 hC4
            go_wp2_with (first
              | ((with_reducible refine gate_builtin (b := .append) (xs := #[.tmp 40, .tmp 45]) rfl ?_); at_builtin; refine Kd.R_append_rows (Kd.int .u8) (w0 := w) w.heap.size rfl (.tmp 40) (.tmp 45) 22 5 (.int .u8 0) 1 rfl Tryd.underlying22 HI.out rfl (by decide) (by omega) v3 (out ++ List.replicate pad (0 : Int)) (pieceJ 4 (r'.take n)) _ _ _ (fun _ => True) (fun _ => False) rfl rfl ?aO ?aR (fun _ _ h => h) (fun _ h => h.elim) (fun _ _ => trivial) ?aB ?aS ?aL ?_; (case aO => exact HO4.out); (case aR => exact HC4.out); (case aB => exact HB4.out); (case aS => exact HB4.out.size); (case aL => have h1 := HPX.out; have h2 := HPY.out; omega); intro v5 w5 ho hb hg hat; have HO5 := Aside0.mk (show Kd.R (Kd.int .u8) 5 w5 w.heap.size (fun _ => True) v5 L by rw [← HLS.out]; exact ho); have HB5 := Aside0.mk hb; clear ho hb hg hat))
            go_ret
            exact ⟨v5, rfl, HO5.out, HB5.out⟩

          · have HPQ := Aside0.mk (fun (W : World) (hW : Below w.heap.size w W) => (show Calls Tryd.prog 32 #[.int .i64 1, .slice A' n c'] W _ from HPIECE.out 1 (by decide) W hW))
            clear HPIECE
            go_wp2_with (first
              | ((with_reducible refine gate_builtin (b := .append) (xs := #[.tmp 19, .tmp 22]) rfl ?_); at_builtin; refine Kd.R_append_zeros (Kd.int .u8) (w0 := w) w.heap.size rfl (.tmp 19) (.tmp 22) 22 3 5 (.int .u8 0) 1 rfl Tryd.underlying22 Tryd.underlying3 HI.out rfl (by decide) (by omega) u7 out (0 : Int) ((blk : Int) - (p : Int)) (fun _ => True) rfl rfl ?aZ (fun _ _ => trivial) ?aO ?a0 ?aB ?aS ?aL ?_; (case aZ => exact rfl); (case aO => exact HO.out); (case a0 => omega); (case aB => exact HB.out); (case aS => exact HB.out.size); (case aL => have := HOB.out; omega); intro v3 w3 ho hb hg hat; rw [show ((blk : Int) - (p : Int)).toNat = pad by omega] at ho; have HO3 := Aside0.mk ho; have HB3 := Aside0.mk hb; clear ho hb hg hat))
            (with_reducible refine (HPQ.out _ HB3.out).mono ?_)
            rintro e w4 ⟨v4, rfl, ho, hb⟩
            obtain ⟨A4, c4, rfl, hl4, hC4⟩ := Kd.R_reads ho
            have HO4 := Aside0.mk (Kd.R_below HO3.out hb)
            have HB4 := Aside0.mk (below_step HB3.out hb)
            have HC4 := Aside0.mk hC4
            have HPX := Aside0.mk (show (out ++ List.replicate pad (0 : Int)).length ≤ 5000006 by rw [List.length_append, List.length_replicate]; have := HOB.out; omega)
            have HPY := Aside0.mk (HPL.out 1)
            clear ho hb hl4 hC4
            go_wp2_with (first
              | ((with_reducible refine gate_builtin (b := .append) (xs := #[.tmp 40, .tmp 45]) rfl ?_); at_builtin; refine Kd.R_append_rows (Kd.int .u8) (w0 := w) w.heap.size rfl (.tmp 40) (.tmp 45) 22 5 (.int .u8 0) 1 rfl Tryd.underlying22 HI.out rfl (by decide) (by omega) v3 (out ++ List.replicate pad (0 : Int)) (pieceJ 1 (r'.take n)) _ _ _ (fun _ => True) (fun _ => False) rfl rfl ?aO ?aR (fun _ _ h => h) (fun _ h => h.elim) (fun _ _ => trivial) ?aB ?aS ?aL ?_; (case aO => exact HO4.out); (case aR => exact HC4.out); (case aB => exact HB4.out); (case aS => exact HB4.out.size); (case aL => have h1 := HPX.out; have h2 := HPY.out; omega); intro v5 w5 ho hb hg hat; have HO5 := Aside0.mk (show Kd.R (Kd.int .u8) 5 w5 w.heap.size (fun _ => True) v5 L by rw [← HLS.out]; exact ho); have HB5 := Aside0.mk hb; clear ho hb hg hat))
            go_ret
            exact ⟨v5, rfl, HO5.out, HB5.out⟩

        · have hn9 := HNN.out
          have b2 : decide (((blk : Int) - 7) > (r'.length : Int)) = false := decide_eq_false (by omega)
          have b3 : (((blk : Int) - 7) == (r'.length : Int)) = false := by simp; omega
          have ht1 : (((blk : Int) - 7)).toNat = n := by omega
          have ht2 : ((blk : Int) - 7) = (n : Int) := by omega
          rw [← ht2] at hcut1 hcut2
          clear ht1 ht2
          obtain rfl : last = false := by have h9 := HNL.out; cases last with | false => rfl | true => exact absurd (h9.2 rfl) (by omega)
          obtain ⟨hnx1, hnx2, hnx3⟩ := HNX.out rfl
          have HNX1 := Aside0.mk hnx1
          have HNX2 := Aside0.mk hnx2
          clear hnx1 hnx2 hnx3
          clear HNL HLS HNX HNN hn9 hq1 hq2 hlt hme
          cases first
          · have HPQ := Aside0.mk (fun (W : World) (hW : Below w.heap.size w W) => (show Calls Tryd.prog 32 #[.int .i64 3, .slice A' n c'] W _ from HPIECE.out 3 (by decide) W hW))
            clear HPIECE
            go_wp2_with (first
              | ((with_reducible refine gate_builtin (b := .append) (xs := #[.tmp 19, .tmp 22]) rfl ?_); at_builtin; refine Kd.R_append_zeros (Kd.int .u8) (w0 := w) w.heap.size rfl (.tmp 19) (.tmp 22) 22 3 5 (.int .u8 0) 1 rfl Tryd.underlying22 Tryd.underlying3 HI.out rfl (by decide) (by omega) u7 out (0 : Int) ((blk : Int) - (p : Int)) (fun _ => True) rfl rfl ?aZ (fun _ _ => trivial) ?aO ?a0 ?aB ?aS ?aL ?_; (case aZ => exact rfl); (case aO => exact HO.out); (case a0 => omega); (case aB => exact HB.out); (case aS => exact HB.out.size); (case aL => have := HOB.out; omega); intro v3 w3 ho hb hg hat; rw [show ((blk : Int) - (p : Int)).toNat = pad by omega] at ho; have HO3 := Aside0.mk ho; have HB3 := Aside0.mk hb; clear ho hb hg hat))
            (with_reducible refine (HPQ.out _ HB3.out).mono ?_)
            rintro e w4 ⟨v4, rfl, ho, hb⟩
            obtain ⟨A4, c4, rfl, hl4, hC4⟩ := Kd.R_reads ho
            have HO4 := Aside0.mk (Kd.R_below HO3.out hb)
            have HB4 := Aside0.mk (below_step HB3.out hb)
            have HC4 := Aside0.mk hC4
            have HPX := Aside0.mk (show (out ++ List.replicate pad (0 : Int)).length ≤ 5000006 by rw [List.length_append, List.length_replicate]; have := HOB.out; omega)
            have HPY := Aside0.mk (HPL.out 3)
            clear ho hb hl4 hC4
            go_wp2_with (first
              | ((with_reducible refine gate_builtin (b := .append) (xs := #[.tmp 40, .tmp 45]) rfl ?_); at_builtin; refine Kd.R_append_rows (Kd.int .u8) (w0 := w) w.heap.size rfl (.tmp 40) (.tmp 45) 22 5 (.int .u8 0) 1 rfl Tryd.underlying22 HI.out rfl (by decide) (by omega) v3 (out ++ List.replicate pad (0 : Int)) (pieceJ 3 (r'.take n)) _ _ _ (fun _ => True) (fun _ => False) rfl rfl ?aO ?aR (fun _ _ h => h) (fun _ h => h.elim) (fun _ _ => trivial) ?aB ?aS ?aL ?_; (case aO => exact HO4.out); (case aR => exact HC4.out); (case aB => exact HB4.out); (case aS => exact HB4.out.size); (case aL => have h1 := HPX.out; have h2 := HPY.out; omega); intro v5 w5 ho hb hg hat; have HO5 := Aside0.mk ho; have HB5 := Aside0.mk hb; clear ho hb hg hat))
            go_roundg k
            case measure => omega
            case rel => exact ⟨r'.drop n, _, A2, c' - n, 0, false, by rw [HDL.out], by rw [show (7 + ((blk : Int) - 7)) = (blk : Int) by omega, Int.emod_self]; rfl, rfl, by omega, by rw [HDL.out]; omega, ⟨by rw [HDL.out]; exact HNX2.out⟩, ⟨by rw [HDL.out]; have := HC'.out; omega⟩, ⟨HBY'.out.drop n⟩, HNX1, HRD, HO5, HB5⟩

          · have HPQ := Aside0.mk (fun (W : World) (hW : Below w.heap.size w W) => (show Calls Tryd.prog 32 #[.int .i64 2, .slice A' n c'] W _ from HPIECE.out 2 (by decide) W hW))
            clear HPIECE
            go_wp2_with (first
              | ((with_reducible refine gate_builtin (b := .append) (xs := #[.tmp 19, .tmp 22]) rfl ?_); at_builtin; refine Kd.R_append_zeros (Kd.int .u8) (w0 := w) w.heap.size rfl (.tmp 19) (.tmp 22) 22 3 5 (.int .u8 0) 1 rfl Tryd.underlying22 Tryd.underlying3 HI.out rfl (by decide) (by omega) u7 out (0 : Int) ((blk : Int) - (p : Int)) (fun _ => True) rfl rfl ?aZ (fun _ _ => trivial) ?aO ?a0 ?aB ?aS ?aL ?_; (case aZ => exact rfl); (case aO => exact HO.out); (case a0 => omega); (case aB => exact HB.out); (case aS => exact HB.out.size); (case aL => have := HOB.out; omega); intro v3 w3 ho hb hg hat; rw [show ((blk : Int) - (p : Int)).toNat = pad by omega] at ho; have HO3 := Aside0.mk ho; have HB3 := Aside0.mk hb; clear ho hb hg hat))
            (with_reducible refine (HPQ.out _ HB3.out).mono ?_)
            rintro e w4 ⟨v4, rfl, ho, hb⟩
            obtain ⟨A4, c4, rfl, hl4, hC4⟩ := Kd.R_reads ho
            have HO4 := Aside0.mk (Kd.R_below HO3.out hb)
            have HB4 := Aside0.mk (below_step HB3.out hb)
            have HC4 := Aside0.mk hC4
            have HPX := Aside0.mk (show (out ++ List.replicate pad (0 : Int)).length ≤ 5000006 by rw [List.length_append, List.length_replicate]; have := HOB.out; omega)
            have HPY := Aside0.mk (HPL.out 2)
            clear ho hb hl4 hC4
            go_wp2_with (first
              | ((with_reducible refine gate_builtin (b := .append) (xs := #[.tmp 40, .tmp 45]) rfl ?_); at_builtin; refine Kd.R_append_rows (Kd.int .u8) (w0 := w) w.heap.size rfl (.tmp 40) (.tmp 45) 22 5 (.int .u8 0) 1 rfl Tryd.underlying22 HI.out rfl (by decide) (by omega) v3 (out ++ List.replicate pad (0 : Int)) (pieceJ 2 (r'.take n)) _ _ _ (fun _ => True) (fun _ => False) rfl rfl ?aO ?aR (fun _ _ h => h) (fun _ h => h.elim) (fun _ _ => trivial) ?aB ?aS ?aL ?_; (case aO => exact HO4.out); (case aR => exact HC4.out); (case aB => exact HB4.out); (case aS => exact HB4.out.size); (case aL => have h1 := HPX.out; have h2 := HPY.out; omega); intro v5 w5 ho hb hg hat; have HO5 := Aside0.mk ho; have HB5 := Aside0.mk hb; clear ho hb hg hat))
            go_roundg k
            case measure => omega
            case rel => exact ⟨r'.drop n, _, A2, c' - n, 0, false, by rw [HDL.out], by rw [show (7 + ((blk : Int) - 7)) = (blk : Int) by omega, Int.emod_self]; rfl, rfl, by omega, by rw [HDL.out]; omega, ⟨by rw [HDL.out]; exact HNX2.out⟩, ⟨by rw [HDL.out]; have := HC'.out; omega⟩, ⟨HBY'.out.drop n⟩, HNX1, HRD, HO5, HB5⟩
      · have b1 : decide ((blk : Int) - (p : Int) < 7) = false := decide_eq_false (by omega)
        rcases Nat.lt_trichotomy r'.length most with hgt | heq | hlt
        · have hn9 := HNN.out
          have b2 : decide (((blk : Int) - (p : Int) - 7) > (r'.length : Int)) = true := decide_eq_true (by omega)
          have ht2 : (r'.length : Int) = (n : Int) := by omega
          rw [← ht2] at hcut1 hcut2
          clear ht2
          obtain rfl : last = true := by exact HNL.out.1 (by omega)
          have HLS2 := HLS.out rfl
          clear HNL HLS HNX HNN hn9 hq1 hq2 hgt hme
          have HLS := Aside0.mk HLS2
          clear HLS2
          cases first
          · have HPQ := Aside0.mk (fun (W : World) (hW : Below w.heap.size w W) => (show Calls Tryd.prog 32 #[.int .i64 4, .slice A' n c'] W _ from HPIECE.out 4 (by decide) W hW))
            clear HPIECE
            have HO3 := Aside0.mk (show Kd.R (Kd.int .u8) 5 wr w.heap.size (fun _ => True) u7 (out ++ List.replicate pad (0 : Int)) by rw [hpe, List.replicate_zero, List.append_nil]; exact HO.out)
            go_wp2_with fail
            (with_reducible refine (HPQ.out _ HB.out).mono ?_)
            rintro e w4 ⟨v4, rfl, ho, hb⟩
            obtain ⟨A4, c4, rfl, hl4, hC4⟩ := Kd.R_reads ho
            have HO4 := Aside0.mk (Kd.R_below HO3.out hb)
            have HB4 := Aside0.mk (below_step HB.out hb)
            have HC4 := Aside0.mk hC4
            have HPX := Aside0.mk (show (out ++ List.replicate pad (0 : Int)).length ≤ 5000006 by rw [List.length_append, List.length_replicate]; have := HOB.out; omega)
            have HPY := Aside0.mk (HPL.out 4)
            clear ho hb hl4 hC4
            go_wp2_with (first
              | ((with_reducible refine gate_builtin (b := .append) (xs := #[.tmp 40, .tmp 45]) rfl ?_); at_builtin; refine Kd.R_append_rows (Kd.int .u8) (w0 := w) w.heap.size rfl (.tmp 40) (.tmp 45) 22 5 (.int .u8 0) 1 rfl Tryd.underlying22 HI.out rfl (by decide) (by omega) u7 (out ++ List.replicate pad (0 : Int)) (pieceJ 4 (r'.take n)) _ _ _ (fun _ => True) (fun _ => False) rfl rfl ?aO ?aR (fun _ _ h => h) (fun _ h => h.elim) (fun _ _ => trivial) ?aB ?aS ?aL ?_; (case aO => exact HO4.out); (case aR => exact HC4.out); (case aB => exact HB4.out); (case aS => exact HB4.out.size); (case aL => have h1 := HPX.out; have h2 := HPY.out; omega); intro v5 w5 ho hb hg hat; have HO5 := Aside0.mk (show Kd.R (Kd.int .u8) 5 w5 w.heap.size (fun _ => True) v5 L by rw [← HLS.out]; exact ho); have HB5 := Aside0.mk hb; clear ho hb hg hat))
            go_ret
            exact ⟨v5, rfl, HO5.out, HB5.out⟩

          · have HPQ := Aside0.mk (fun (W : World) (hW : Below w.heap.size w W) => (show Calls Tryd.prog 32 #[.int .i64 1, .slice A' n c'] W _ from HPIECE.out 1 (by decide) W hW))
            clear HPIECE
            have HO3 := Aside0.mk (show Kd.R (Kd.int .u8) 5 wr w.heap.size (fun _ => True) u7 (out ++ List.replicate pad (0 : Int)) by rw [hpe, List.replicate_zero, List.append_nil]; exact HO.out)
            go_wp2_with fail
            (with_reducible refine (HPQ.out _ HB.out).mono ?_)
            rintro e w4 ⟨v4, rfl, ho, hb⟩
            obtain ⟨A4, c4, rfl, hl4, hC4⟩ := Kd.R_reads ho
            have HO4 := Aside0.mk (Kd.R_below HO3.out hb)
            have HB4 := Aside0.mk (below_step HB.out hb)
            have HC4 := Aside0.mk hC4
            have HPX := Aside0.mk (show (out ++ List.replicate pad (0 : Int)).length ≤ 5000006 by rw [List.length_append, List.length_replicate]; have := HOB.out; omega)
            have HPY := Aside0.mk (HPL.out 1)
            clear ho hb hl4 hC4
            go_wp2_with (first
              | ((with_reducible refine gate_builtin (b := .append) (xs := #[.tmp 40, .tmp 45]) rfl ?_); at_builtin; refine Kd.R_append_rows (Kd.int .u8) (w0 := w) w.heap.size rfl (.tmp 40) (.tmp 45) 22 5 (.int .u8 0) 1 rfl Tryd.underlying22 HI.out rfl (by decide) (by omega) u7 (out ++ List.replicate pad (0 : Int)) (pieceJ 1 (r'.take n)) _ _ _ (fun _ => True) (fun _ => False) rfl rfl ?aO ?aR (fun _ _ h => h) (fun _ h => h.elim) (fun _ _ => trivial) ?aB ?aS ?aL ?_; (case aO => exact HO4.out); (case aR => exact HC4.out); (case aB => exact HB4.out); (case aS => exact HB4.out.size); (case aL => have h1 := HPX.out; have h2 := HPY.out; omega); intro v5 w5 ho hb hg hat; have HO5 := Aside0.mk (show Kd.R (Kd.int .u8) 5 w5 w.heap.size (fun _ => True) v5 L by rw [← HLS.out]; exact ho); have HB5 := Aside0.mk hb; clear ho hb hg hat))
            go_ret
            exact ⟨v5, rfl, HO5.out, HB5.out⟩

        · have hn9 := HNN.out
          have b2 : decide (((blk : Int) - (p : Int) - 7) > (r'.length : Int)) = false := decide_eq_false (by omega)
          have b3 : (((blk : Int) - (p : Int) - 7) == (r'.length : Int)) = true := by simp; omega
          have ht1 : (((blk : Int) - (p : Int) - 7)).toNat = n := by omega
          have ht2 : ((blk : Int) - (p : Int) - 7) = (n : Int) := by omega
          rw [← ht2] at hcut1 hcut2
          clear ht1 ht2
          obtain rfl : last = true := by exact HNL.out.1 (by omega)
          have HLS2 := HLS.out rfl
          clear HNL HLS HNX HNN hn9 hq1 hq2 heq hme
          have HLS := Aside0.mk HLS2
          clear HLS2
          cases first
          · have HPQ := Aside0.mk (fun (W : World) (hW : Below w.heap.size w W) => (show Calls Tryd.prog 32 #[.int .i64 4, .slice A' n c'] W _ from HPIECE.out 4 (by decide) W hW))
            clear HPIECE
            have HO3 := Aside0.mk (show Kd.R (Kd.int .u8) 5 wr w.heap.size (fun _ => True) u7 (out ++ List.replicate pad (0 : Int)) by rw [hpe, List.replicate_zero, List.append_nil]; exact HO.out)
            go_wp2_with fail
            (with_reducible refine (HPQ.out _ HB.out).mono ?_)
            rintro e w4 ⟨v4, rfl, ho, hb⟩
            obtain ⟨A4, c4, rfl, hl4, hC4⟩ := Kd.R_reads ho
            have HO4 := Aside0.mk (Kd.R_below HO3.out hb)
            have HB4 := Aside0.mk (below_step HB.out hb)
            have HC4 := Aside0.mk hC4
            have HPX := Aside0.mk (show (out ++ List.replicate pad (0 : Int)).length ≤ 5000006 by rw [List.length_append, List.length_replicate]; have := HOB.out; omega)
            have HPY := Aside0.mk (HPL.out 4)
            clear ho hb hl4 hC4
            go_wp2_with (first
              | ((with_reducible refine gate_builtin (b := .append) (xs := #[.tmp 40, .tmp 45]) rfl ?_); at_builtin; refine Kd.R_append_rows (Kd.int .u8) (w0 := w) w.heap.size rfl (.tmp 40) (.tmp 45) 22 5 (.int .u8 0) 1 rfl Tryd.underlying22 HI.out rfl (by decide) (by omega) u7 (out ++ List.replicate pad (0 : Int)) (pieceJ 4 (r'.take n)) _ _ _ (fun _ => True) (fun _ => False) rfl rfl ?aO ?aR (fun _ _ h => h) (fun _ h => h.elim) (fun _ _ => trivial) ?aB ?aS ?aL ?_; (case aO => exact HO4.out); (case aR => exact HC4.out); (case aB => exact HB4.out); (case aS => exact HB4.out.size); (case aL => have h1 := HPX.out; have h2 := HPY.out; omega); intro v5 w5 ho hb hg hat; have HO5 := Aside0.mk (show Kd.R (Kd.int .u8) 5 w5 w.heap.size (fun _ => True) v5 L by rw [← HLS.out]; exact ho); have HB5 := Aside0.mk hb; clear ho hb hg hat))
            go_ret
            exact ⟨v5, rfl, HO5.out, HB5.out⟩

          · have HPQ := Aside0.mk (fun (W : World) (hW : Below w.heap.size w W) => (show Calls Tryd.prog 32 #[.int .i64 1, .slice A' n c'] W _ from HPIECE.out 1 (by decide) W hW))
            clear HPIECE
            have HO3 := Aside0.mk (show Kd.R (Kd.int .u8) 5 wr w.heap.size (fun _ => True) u7 (out ++ List.replicate pad (0 : Int)) by rw [hpe, List.replicate_zero, List.append_nil]; exact HO.out)
            go_wp2_with fail
            (with_reducible refine (HPQ.out _ HB.out).mono ?_)
            rintro e w4 ⟨v4, rfl, ho, hb⟩
            obtain ⟨A4, c4, rfl, hl4, hC4⟩ := Kd.R_reads ho
            have HO4 := Aside0.mk (Kd.R_below HO3.out hb)
            have HB4 := Aside0.mk (below_step HB.out hb)
            have HC4 := Aside0.mk hC4
            have HPX := Aside0.mk (show (out ++ List.replicate pad (0 : Int)).length ≤ 5000006 by rw [List.length_append, List.length_replicate]; have := HOB.out; omega)
            have HPY := Aside0.mk (HPL.out 1)
            clear ho hb hl4 hC4
            go_wp2_with (first
              | ((with_reducible refine gate_builtin (b := .append) (xs := #[.tmp 40, .tmp 45]) rfl ?_); at_builtin; refine Kd.R_append_rows (Kd.int .u8) (w0 := w) w.heap.size rfl (.tmp 40) (.tmp 45) 22 5 (.int .u8 0) 1 rfl Tryd.underlying22 HI.out rfl (by decide) (by omega) u7 (out ++ List.replicate pad (0 : Int)) (pieceJ 1 (r'.take n)) _ _ _ (fun _ => True) (fun _ => False) rfl rfl ?aO ?aR (fun _ _ h => h) (fun _ h => h.elim) (fun _ _ => trivial) ?aB ?aS ?aL ?_; (case aO => exact HO4.out); (case aR => exact HC4.out); (case aB => exact HB4.out); (case aS => exact HB4.out.size); (case aL => have h1 := HPX.out; have h2 := HPY.out; omega); intro v5 w5 ho hb hg hat; have HO5 := Aside0.mk (show Kd.R (Kd.int .u8) 5 w5 w.heap.size (fun _ => True) v5 L by rw [← HLS.out]; exact ho); have HB5 := Aside0.mk hb; clear ho hb hg hat))
            go_ret
            exact ⟨v5, rfl, HO5.out, HB5.out⟩

        · have hn9 := HNN.out
          have b2 : decide (((blk : Int) - (p : Int) - 7) > (r'.length : Int)) = false := decide_eq_false (by omega)
          have b3 : (((blk : Int) - (p : Int) - 7) == (r'.length : Int)) = false := by simp; omega
          have ht1 : (((blk : Int) - (p : Int) - 7)).toNat = n := by omega
          have ht2 : ((blk : Int) - (p : Int) - 7) = (n : Int) := by omega
          rw [← ht2] at hcut1 hcut2
          clear ht1 ht2
          obtain rfl : last = false := by have h9 := HNL.out; cases last with | false => rfl | true => exact absurd (h9.2 rfl) (by omega)
          obtain ⟨hnx1, hnx2, hnx3⟩ := HNX.out rfl
          have HNX1 := Aside0.mk hnx1
          have HNX2 := Aside0.mk hnx2
          clear hnx1 hnx2 hnx3
          clear HNL HLS HNX HNN hn9 hq1 hq2 hlt hme
          cases first
          · have HPQ := Aside0.mk (fun (W : World) (hW : Below w.heap.size w W) => (show Calls Tryd.prog 32 #[.int .i64 3, .slice A' n c'] W _ from HPIECE.out 3 (by decide) W hW))
            clear HPIECE
            have HO3 := Aside0.mk (show Kd.R (Kd.int .u8) 5 wr w.heap.size (fun _ => True) u7 (out ++ List.replicate pad (0 : Int)) by rw [hpe, List.replicate_zero, List.append_nil]; exact HO.out)
            go_wp2_with fail
            (with_reducible refine (HPQ.out _ HB.out).mono ?_)
            rintro e w4 ⟨v4, rfl, ho, hb⟩
            obtain ⟨A4, c4, rfl, hl4, hC4⟩ := Kd.R_reads ho
            have HO4 := Aside0.mk (Kd.R_below HO3.out hb)
            have HB4 := Aside0.mk (below_step HB.out hb)
            have HC4 := Aside0.mk hC4
            have HPX := Aside0.mk (show (out ++ List.replicate pad (0 : Int)).length ≤ 5000006 by rw [List.length_append, List.length_replicate]; have := HOB.out; omega)
            have HPY := Aside0.mk (HPL.out 3)
            clear ho hb hl4 hC4
            go_wp2_with (first
              | ((with_reducible refine gate_builtin (b := .append) (xs := #[.tmp 40, .tmp 45]) rfl ?_); at_builtin; refine Kd.R_append_rows (Kd.int .u8) (w0 := w) w.heap.size rfl (.tmp 40) (.tmp 45) 22 5 (.int .u8 0) 1 rfl Tryd.underlying22 HI.out rfl (by decide) (by omega) u7 (out ++ List.replicate pad (0 : Int)) (pieceJ 3 (r'.take n)) _ _ _ (fun _ => True) (fun _ => False) rfl rfl ?aO ?aR (fun _ _ h => h) (fun _ h => h.elim) (fun _ _ => trivial) ?aB ?aS ?aL ?_; (case aO => exact HO4.out); (case aR => exact HC4.out); (case aB => exact HB4.out); (case aS => exact HB4.out.size); (case aL => have h1 := HPX.out; have h2 := HPY.out; omega); intro v5 w5 ho hb hg hat; have HO5 := Aside0.mk ho; have HB5 := Aside0.mk hb; clear ho hb hg hat))
            go_roundg k
            case measure => omega
            case rel => exact ⟨r'.drop n, _, A2, c' - n, 0, false, by rw [HDL.out], by rw [show ((p : Int) + 7 + ((blk : Int) - (p : Int) - 7)) % (blk : Int) = 0 by rw [show (p : Int) + 7 + ((blk : Int) - (p : Int) - 7) = (blk : Int) by omega, Int.emod_self]]; rfl, rfl, by omega, by rw [HDL.out]; omega, ⟨by rw [HDL.out]; exact HNX2.out⟩, ⟨by rw [HDL.out]; have := HC'.out; omega⟩, ⟨HBY'.out.drop n⟩, HNX1, HRD, HO5, HB5⟩

          · have HPQ := Aside0.mk (fun (W : World) (hW : Below w.heap.size w W) => (show Calls Tryd.prog 32 #[.int .i64 2, .slice A' n c'] W _ from HPIECE.out 2 (by decide) W hW))
            clear HPIECE
            have HO3 := Aside0.mk (show Kd.R (Kd.int .u8) 5 wr w.heap.size (fun _ => True) u7 (out ++ List.replicate pad (0 : Int)) by rw [hpe, List.replicate_zero, List.append_nil]; exact HO.out)
            go_wp2_with fail
            (with_reducible refine (HPQ.out _ HB.out).mono ?_)
            rintro e w4 ⟨v4, rfl, ho, hb⟩
            obtain ⟨A4, c4, rfl, hl4, hC4⟩ := Kd.R_reads ho
            have HO4 := Aside0.mk (Kd.R_below HO3.out hb)
            have HB4 := Aside0.mk (below_step HB.out hb)
            have HC4 := Aside0.mk hC4
            have HPX := Aside0.mk (show (out ++ List.replicate pad (0 : Int)).length ≤ 5000006 by rw [List.length_append, List.length_replicate]; have := HOB.out; omega)
            have HPY := Aside0.mk (HPL.out 2)
            clear ho hb hl4 hC4
            go_wp2_with (first
              | ((with_reducible refine gate_builtin (b := .append) (xs := #[.tmp 40, .tmp 45]) rfl ?_); at_builtin; refine Kd.R_append_rows (Kd.int .u8) (w0 := w) w.heap.size rfl (.tmp 40) (.tmp 45) 22 5 (.int .u8 0) 1 rfl Tryd.underlying22 HI.out rfl (by decide) (by omega) u7 (out ++ List.replicate pad (0 : Int)) (pieceJ 2 (r'.take n)) _ _ _ (fun _ => True) (fun _ => False) rfl rfl ?aO ?aR (fun _ _ h => h) (fun _ h => h.elim) (fun _ _ => trivial) ?aB ?aS ?aL ?_; (case aO => exact HO4.out); (case aR => exact HC4.out); (case aB => exact HB4.out); (case aS => exact HB4.out.size); (case aL => have h1 := HPX.out; have h2 := HPY.out; omega); intro v5 w5 ho hb hg hat; have HO5 := Aside0.mk ho; have HB5 := Aside0.mk hb; clear ho hb hg hat))
            go_roundg k
            case measure => omega
            case rel => exact ⟨r'.drop n, _, A2, c' - n, 0, false, by rw [HDL.out], by rw [show ((p : Int) + 7 + ((blk : Int) - (p : Int) - 7)) % (blk : Int) = 0 by rw [show (p : Int) + 7 + ((blk : Int) - (p : Int) - 7) = (blk : Int) by omega, Int.emod_self]]; rfl, rfl, by omega, by rw [HDL.out]; omega, ⟨by rw [HDL.out]; exact HNX2.out⟩, ⟨by rw [HDL.out]; have := HC'.out; omega⟩, ⟨HBY'.out.drop n⟩, HNX1, HRD, HO5, HB5⟩

end Go.Proofs.YtmpkigambfghgaaDoor.G

/- Contracts typed by hand: morainelaw07.lent makes a copy with a mark behind its end; morainelaw07.kept tells that such a copy stands as it was. -/
namespace Go.Proofs.YtmpkigambfghgaaDoor.G
open Go.RowKit Go.Proofs.YtmpkigambfghgaaDoorW.PrintWords Go.Proofs.YtmpkigambfghgaaDoorW.PrintLast Go.Proofs.YtmpkigambfghgaaDoorW.PrintMore
attribute [local go_sem] max2_int min2_int max_two min_two max_three min_three max_four min_four
set_option linter.unusedVariables false
set_option linter.unusedSimpArgs false

/-! morainelaw07.lent makes a copy with a mark behind its end; morainelaw07.kept tells that such a copy stands as it was. -/

theorem C_prefix {w : World} {A : Option Addr} {xs ys : List Int} (h : Kd.C (Kd.int .u8) w A (xs.length + ys.length) (xs ++ ys)) : Kd.C (Kd.int .u8) w A xs.length xs := by
  rw [← List.length_append] at h
  have h1 := Kd.C_take (m := xs.length) h (by simp)
  rwa [List.take_left] at h1
theorem lent_len (l : List Int) : (l ++ [(90 : Int)]).length = l.length + 1 := by simp
theorem lent_rd (l : List Int) : rd (l ++ [(90 : Int)]) (l.length : Int) = 90 := by simp [rd, List.getD_eq_getElem?_getD]
set_option maxHeartbeats 2000000 in
theorem morainelaw07_lent.calls (A0 : Option Addr) (c0 : Nat) (l0 : List Int) (w : World) (hr0 : Kd.C (Kd.int .u8) w A0 l0.length l0) (hc0 : l0.length ≤ c0) (hl : l0.length ≤ 140737488355000) :
    Calls Tryd.prog 18 #[.slice A0 l0.length c0] w fun e w' => ∃ (A : Option Addr) (c : Nat), e = .returned (.slice A l0.length c) ∧ Kd.R (Kd.int .u8) 5 w' w.heap.size (fun _ => True) (.slice A (l0.length + 1) c) (l0 ++ [90]) ∧ Below w.heap.size w w' := by
  have HR := Aside0.mk hr0
  have HC := Aside0.mk hc0
  clear hr0 hc0
  have HL := Aside0.mk hl
  have hinfo : (Tryd.prog.info? 5).map (fun i => (i.zero, i.size, i.bytes)) = some (some (.int .u8 0), 1, 1) := by kernel_rfl
  have HI := Aside0.mk hinfo
  clear hinfo
  have HB := Aside0.mk (Below.refl w.heap.size w)
  go_enter Tryd.func18, Tryd.ntmps18
  go_wp2_with (first | ((with_reducible refine gate_dst (N := 3) rfl ?_); refine Kd.R_lit (Kd.int .u8) _ 5 ?hg (N := 3) ?hd (xs := ([] : List Int)) (inner := []) (ok := fun _ => True) (okp := fun _ => True) ?hr ?hp (fun _ hk => hk) trivial (Below.refl _ _) (Nat.le_refl _) (by simp) ?_; (case hd => rfl); (case hg => rfl); (case hr => first | (go_simp; done) | (go_simp; rfl)); (case hp => exact (Reps.none _ _)); intro v102 w6 ho7 hb hg_ hnew_; clear hg_ hnew_; have HO1 := Aside0.mk ho7; have HB1 := Aside0.mk hb; clear hb ho7) | ((with_reducible refine gate_builtin (b := .append) (xs := #[.tmp 3, .tmp 4]) rfl ?_); at_builtin; refine Kd.R_append_rows (Kd.int .u8) (w0 := w) w.heap.size rfl (.tmp 3) (.tmp 4) 22 5 (.int .u8 0) 1 rfl Tryd.underlying22 HI.out rfl (by decide) (by omega) v102 [] l0 _ _ _ (fun _ => True) (fun _ => False) rfl rfl ?aO ?aR (fun _ _ h => h) (fun _ h => h.elim) (fun _ _ => trivial) ?aB ?aS ?aL ?_; (case aR => exact (Kd.C_below HR.out HB1.out)); (case aB => exact HB1.out); (case aO => exact HO1.out); (case aS => exact HB1.out.size); (case aL => have := HL.out; simp; omega); intro v105 w8 ho hb hg hat; have HO2 := Aside0.mk ho; have HB2 := Aside0.mk hb; clear ho hb hg hat) | ((with_reducible refine gate_builtin (b := .append) (xs := #[.tmp 5, .tmp 6]) rfl ?_); at_builtin; refine Kd.R_append (Kd.int .u8) (w0 := w) w.heap.size rfl (.tmp 5) (.tmp 6) 22 5 (.int .u8 0) 1 rfl Tryd.underlying22 HI.out rfl (by decide) (by omega) v105 ([] ++ l0) 90 [.int .u8 90] (fun _ => True) (fun _ => False) rfl rfl ?aP (fun _ hk => hk.elim) (fun _ _ => trivial) ?aO ?aB ?aS ?aL ?_; (case aP => exact rfl); (case aB => exact HB2.out); (case aO => exact HO2.out); (case aS => exact HB2.out.size); (case aL => have := HL.out; simp; omega); intro v108 w9 ho hb hg hat; have ho2 : Kd.R (Kd.int .u8) 5 w9 w.heap.size (fun _ => True) v108 (l0 ++ [90]) := ho; have HB3 := Aside0.mk hb; clear ho hb hg hat; obtain ⟨Ao10, co10, eo10⟩ := Kd.R_slice ho2; subst eo10; rw [lent_len] at ho2; have HO3 := Aside0.mk ho2; have hcc : l0.length + 1 ≤ co10 := (Kd.R_reads' ho2).2.1; clear ho2; obtain ⟨i011, hi011, _, hsz11, _⟩ := info_parts HI.out; rw [lent_len]; have hcut11 := cut_to (P := Tryd.prog) 22 5 .i64 Tryd.underlying22 hi011 Ao10 (l0.length + 1) co10 (l0.length : Int) (by omega) (by omega) hcc; rw [Int.toNat_natCast] at hcut11; clear hi011 hsz11))
  go_ret
  exact ⟨_, _, rfl, HO3.out, HB3.out⟩
set_option maxHeartbeats 2000000 in
theorem morainelaw07_kept.calls (A0 : Option Addr) (c0 : Nat) (l0 : List Int) (A1 : Option Addr) (c1 : Nat) (w : World) (hr0 : Kd.C (Kd.int .u8) w A0 (l0.length + 1) (l0 ++ [90])) (hc0 : l0.length + 1 ≤ c0) (hr1 : Kd.C (Kd.int .u8) w A1 l0.length l0) (hl : l0.length ≤ 140737488355000) :
    Calls Tryd.prog 20 #[.slice A0 l0.length c0, .slice A1 l0.length c1] w fun e w' => e = .returned (.bool true) ∧ Drawn0 w w' := by
  have hcv0 := Kd.C_string (P := Tryd.prog) (w := w) (A := A0) (c := c0) Tryd.underlying22 Tryd.underlying5 Tryd.underlying9 (C_prefix (ys := [90]) hr0)
  have hcv1 := Kd.C_string (P := Tryd.prog) (w := w) (A := A1) (c := c1) Tryd.underlying22 Tryd.underlying5 Tryd.underlying9 hr1
  obtain ⟨ad, e1, hx⟩ := Kd.at_int hr0 (l0.length : Int) (by omega) (by omega)
  rw [lent_rd, Int.toNat_natCast] at hx
  cases e1
  clear hr0 hr1
  generalize hn : l0.length = n at *
  clear hn
  go_enter Tryd.func20, Tryd.ntmps20
  go_wp2
  go_ret
  exact ⟨by simp, Drawn0.refl _⟩


end Go.Proofs.YtmpkigambfghgaaDoor.G

/- Printed by the session's program over the kit's print, out of the translation: functions as plain Lean functions, and the proofs that the calls come to them. -/
namespace Go.Proofs.YtmpkigambfghgaaDoor.G
open Go.RowKit Go.Proofs.YtmpkigambfghgaaDoorW.PrintWords Go.Proofs.YtmpkigambfghgaaDoorW.PrintLast Go.Proofs.YtmpkigambfghgaaDoorW.PrintMore
attribute [local go_sem] max2_int min2_int max_two min_two max_three min_three max_four min_four   -- for this text's walks alone
set_option linter.unusedVariables false
set_option linter.unusedSimpArgs false

/-! ### morainelaw07_spoil: function 17 -/
def morainelaw07_spoil.l0 : Nat → List Int → Int → Option (List Int)
  | 0, _, _ => none
  | k + 1, x0, x2 => if x2 < (x0.length : Int) then (if 0 ≤ x2 then (morainelaw07_spoil.l0 k (x0.set (x2 : Int).toNat (((rd x0 x2) + 1) % 256)) (wrap64 (x2 + 1))) else (none)) else (some x0)
def morainelaw07_spoil.f (k : Nat) (l0 : List Int) : Option (List Int) := morainelaw07_spoil.l0 k l0 0
theorem morainelaw07_spoil.mono_l : ∀ k, (∀ y0 y1, LeO (morainelaw07_spoil.l0 k y0 y1) (morainelaw07_spoil.l0 (k + 1) y0 y1))
  | 0 => fun _ _ r h => by simp [morainelaw07_spoil.l0] at h
  | k + 1 => by
    have ih0 := morainelaw07_spoil.mono_l k
    · intro y0 y1
      unfold morainelaw07_spoil.l0
      repeat' first
      | (with_reducible exact ih0 _ _)
      | (with_reducible exact LeO.refl _)
      | (with_reducible exact LeO.none _)
      | (with_reducible refine LeO.ite ?_ ?_)
      | (with_reducible refine LeO.bind ?_ (fun _ => ?_))
      | exact ih0 _ _
      | exact LeO.none _
      | refine LeO.ite ?_ ?_
      | refine LeO.bind ?_ (fun _ => ?_)
theorem morainelaw07_spoil.mono : ∀ a0 k, LeO (morainelaw07_spoil.f k a0) (morainelaw07_spoil.f (k + 1) a0) := by
  intro a0 k
  have ih0 := morainelaw07_spoil.mono_l k
  unfold morainelaw07_spoil.f
  repeat' first
      | (with_reducible exact ih0 _ _)
      | (with_reducible exact LeO.refl _)
      | (with_reducible exact LeO.none _)
      | (with_reducible refine LeO.ite ?_ ?_)
      | (with_reducible refine LeO.bind ?_ (fun _ => ?_))
      | exact ih0 _ _
      | exact LeO.none _
      | refine LeO.ite ?_ ?_
      | refine LeO.bind ?_ (fun _ => ?_)
set_option maxHeartbeats 8000000 in
set_option maxRecDepth 100000 in
theorem morainelaw07_spoil.calls (k : Nat) (P0_ : Nat → Prop) (u9000_ : Value) (l0 : List Int) (r : List Int) (w0 w : World) (hB : Below w0.heap.size w0 w) (ho0 : Kd.R (Kd.int .u8) 5 w w0.heap.size P0_ u9000_ l0) (h : morainelaw07_spoil.f k l0 = some r) :
    Calls Tryd.prog 17 #[u9000_] w fun e w' => e = .returned (.tuple #[]) ∧ Kd.R (Kd.int .u8) 5 w' w0.heap.size (fun k_ => (P0_ k_ ∨ w.heap.size ≤ k_)) u9000_ r ∧ Below w0.heap.size w0 w' ∧ Kept w w' (fun k_ => P0_ k_) := by
  have HO0 := Aside0.mk (show Kd.R (Kd.int .u8) 5 w w0.heap.size (fun k_ => (P0_ k_ ∨ w.heap.size ≤ k_)) u9000_ l0 from Kd.R_mono ho0 (fun k_ hk => (.inl hk)))
  have HK := Aside0.mk (Kept.refl w (fun k_ => P0_ k_))
  have HW0 := Aside0.mk hB.size
  have HB := Aside0.mk hB
  clear hB
  have H : (morainelaw07_spoil.l0 k l0 0) = some r := h
  clear h
  have H' := Aside0.mk H
  clear H
  go_enter Tryd.func17, Tryd.ntmps17
  go_wp2
  go_loopg [2] k (fun kq v2 w' => ∃ (x0_1 : List Int) (x2_1 : Int), v2 = .int .i64 x2_1 ∧ Aside0 (morainelaw07_spoil.l0 kq x0_1 x2_1 = some r) ∧ Aside0 (kq ≤ k) ∧ Aside0 (Kd.R (Kd.int .u8) 5 w' w0.heap.size (fun k_ => (P0_ k_ ∨ w.heap.size ≤ k_)) u9000_ x0_1) ∧ Aside0 (Kept w w' (fun k_ => P0_ k_)) ∧ Aside0 (Below w0.heap.size w0 w'))
  case atStart => exact ⟨(l0), (0), (by first | rfl | (simp; done) | (simp [*]; done)), H', ⟨Nat.le_refl _⟩, ⟨by (with_reducible repeat (first | apply Kd.R_alloc | apply Kd.R_drewN | apply Kd.R_drew)); exact HO0.out⟩, ⟨by repeat (first | (with_reducible first | exact HK.out | apply Kept.alloc | apply Kept.drewN | apply Kept.drew) | exact HK.out)⟩, ⟨by repeat (first | (with_reducible first | exact HB.out | apply below_alloc | apply pw_below_drewN | apply below_drew1) | exact HB.out)⟩⟩
  case round =>
    clear H'
    try clear c1
    obtain ⟨x0_1, x2_1, rfl, HA, HK1, HO_0, HK, HB⟩ := hrel
    cases gk with
    | zero => exact absurd HA.out (by simp [morainelaw07_spoil.l0])
    | succ k1 =>
      have H := HA.out
      clear HA
      simp only [morainelaw07_spoil.l0] at H
      by_cases c2 : x2_1 < (x0_1.length : Int)
      · rw [if_pos c2] at H
        have c2b0 : decide (x2_1 < (x0_1.length : Int)) = true := decide_eq_true c2
        clear c2
        by_cases c3 : 0 ≤ x2_1
        · rw [if_pos c3] at H
          have c3b0 : decide (0 ≤ x2_1) = true := decide_eq_true c3
          clear c3
          obtain ⟨y158, hy158⟩ : ∃ y_ : List Int, y_ = (x0_1.set (x2_1 : Int).toNat (((rd x0_1 x2_1) + 1) % 256)) := ⟨_, rfl⟩
          replace H : (morainelaw07_spoil.l0 k1 y158 (wrap64 (x2_1 + 1))) = some r := by first | (rw [hy158]; with_reducible exact H) | (have H2_ := (Option.bind_some _ _).symm.trans H; rw [hy158]; with_reducible exact H2_) | (have H2_ := (Option.bind_some _ _).symm.trans H; with_reducible exact H2_) | with_reducible exact H | (rw [hy158]; exact H) | exact H
          have Ny158 := Aside0.mk hy158
          clear hy158
          have H' := Aside0.mk H
          clear H
          obtain ⟨Ao5, co5, eo5⟩ := Kd.R_slice HO_0.out
          subst eo5
          have p157 : 0 ≤ (x2_1 : Int) := of_decide_eq_true (by first | (with_reducible assumption) | assumption)
          have q157 : x2_1 < (x0_1.length : Int) := of_decide_eq_true (by first | (with_reducible assumption) | assumption)
          obtain ⟨ad157, e157, hx157_0⟩ := Kd.at_int (Kd.R_reads' HO_0.out).2.2 x2_1 p157 q157
          cases e157
          replace p157 := eq_true p157
          replace q157 := eq_true q157
          have p4 : 0 ≤ (x2_1 : Int) := of_decide_eq_true (by first | (with_reducible assumption) | assumption)
          have q4 : (x2_1 : Int) < ((x0_1.length : Int) : Int) := of_decide_eq_true (by first | (with_reducible assumption) | assumption)
          obtain ⟨go4, co4, eo4, gb4, gl4, cl4, HG4⟩ := Kd.R_form HO_0.out (by omega)
          (first | cases eo4 | (injection eo4 with ea_ en_ ec_; (first | subst ea_ | (injection ea_ with ea_; subst ea_)); subst ec_; clear en_))
          have GB4 := Aside0.mk gb4
          have GG4 := Aside0.mk HG4
          clear gb4 gl4 HG4
          have HMgo4 := Aside0.mk (show (P0_ go4 ∨ w.heap.size ≤ go4) from (HO_0.out.1 _ rfl))
          (first | simp only [add_plain] at hx157_0 | skip)
          obtain ⟨hx4_0, hf4_0⟩ := Kd.R_celln 0 HO_0.out (x2_1 : Int) p4 q4
          replace p4 := eq_true p4
          replace q4 := eq_true q4
          have HP6 := Kd.R_putg HO_0.out (x2_1 : Int) (((rd x0_1 x2_1) + 1) % 256)
          go_wp2_with (first | ((with_reducible refine gate_store (t := 5) (p := 16) rfl ?_); refine store_event (t := 5) (p := 16) (v := ?vo_w7) (w1 := (wr.setCell ⟨go4, (x2_1 : Int).toNat, none⟩ (.int .u8 (((rd x0_1 x2_1) + 1) % 256)))) ?hg ?ho ?hn ?hr ?_; (case ho => rfl); (case hg => rfl); (case hn => rfl); (case hr => first | (go_simp; done) | (go_simp; rfl)); intro w7 hw; have hg : wr.grownBy w7 (some go4) := (by rw [hw]; exact HP6.2); have hp_ : Kd.R (Kd.int .u8) 5 w7 w0.heap.size (fun k_ => (P0_ k_ ∨ w.heap.size ≤ k_)) (.slice (some ⟨go4, 0, none⟩) x0_1.length co5) y158 := (by rw [hw, Ny158.out]; exact HP6.1); clear HP6; have n0_ := Aside0.mk (hp_); have n1_ := Aside0.mk ((by rw [hw]; exact below_set (HB.out) GB4.out : Below w0.heap.size w0 w7)); have n2_ := Aside0.mk (Kept.of_grown (S := (fun k_ => P0_ k_)) hg (by repeat (first | (with_reducible first | exact HK.out | apply Kept.alloc | apply Kept.drewN | apply Kept.drew) | exact HK.out)) (fun k_ e_ => (HO_0.out.1 k_ e_))); clear HO_0; clear HB; clear HK; have HO_0 := n0_; have HB := n1_; have HK := n2_; clear n0_ n1_ n2_; clear hg hw hp_))
          go_roundg k1
          case measure => have := HK1.out; omega
          case rel => exact ⟨(y158), (wrap64 (x2_1 + 1)), (by first | rfl | (simp; done) | (simp [*]; done)), H', ⟨by have := HK1.out; omega⟩, ⟨by (with_reducible repeat (first | apply Kd.R_alloc | apply Kd.R_drewN | apply Kd.R_drew)); exact HO_0.out⟩, ⟨by repeat (first | (with_reducible first | exact HK.out | apply Kept.alloc | apply Kept.drewN | apply Kept.drew) | exact HK.out)⟩, ⟨by repeat (first | (with_reducible first | exact HB.out | apply below_alloc | apply pw_below_drewN | apply below_drew1) | exact HB.out)⟩⟩
        · rw [if_neg c3] at H
          exact absurd H (by simp)
      · rw [if_neg c2] at H
        have c2b0 : decide (x2_1 < (x0_1.length : Int)) = false := decide_eq_false c2
        clear c2
        obtain rfl := Option.some.inj H
        obtain ⟨Ao8, co8, eo8⟩ := Kd.R_slice HO_0.out
        subst eo8
        go_wp2
        first | go_end0 | ((try simp only [Exit.inBlock, Exit.then]); refine bodyPost_ret (results_none rfl _ _ _) rfl ?_)
        exact ⟨by first | rfl | (simp [errW_none, errW_some] <;> rfl) | (simp [*, errW_none, errW_some] <;> rfl), by (with_reducible repeat (first | apply Kd.R_alloc | apply Kd.R_drewN | apply Kd.R_drew)); exact HO_0.out, by repeat (first | (with_reducible first | exact HB.out | apply below_alloc | apply pw_below_drewN | apply below_drew1) | exact HB.out), by repeat (first | (with_reducible first | exact HK.out | apply Kept.alloc | apply Kept.drewN | apply Kept.drew) | exact HK.out)⟩

end Go.Proofs.YtmpkigambfghgaaDoor.G

/- Printed by the session's program over the kit's print, out of the translation: functions as plain Lean functions, and the proofs that the calls come to them. -/
namespace Go.Proofs.YtmpkigambfghgaaDoor.G
open Go.RowKit Go.Proofs.YtmpkigambfghgaaDoorW.PrintWords Go.Proofs.YtmpkigambfghgaaDoorW.PrintLast Go.Proofs.YtmpkigambfghgaaDoorW.PrintMore
attribute [local go_sem] max2_int min2_int max_two min_two max_three min_three max_four min_four   -- for this text's walks alone
set_option linter.unusedVariables false
set_option linter.unusedSimpArgs false

/-! ### moraineref07_Block: function 14 -/
def moraineref07_Block.f (a0 : Int) : Option (Bool) := if a0 ≥ 32 then (some (decide (a0 ≤ 32768))) else (some false)
set_option maxHeartbeats 8000000 in
set_option maxRecDepth 100000 in
theorem moraineref07_Block.calls (a0 : Int) (r : Bool) (w : World) (h : moraineref07_Block.f a0 = some r) :
    Calls Tryd.prog 14 #[.int .i64 a0] w fun e w' => e = .returned (.bool r) ∧ Drawn0 w w' := by
  have H : (if a0 ≥ 32 then (some (decide (a0 ≤ 32768))) else (some false)) = some r := h
  clear h
  by_cases c2 : a0 ≥ 32
  · rw [if_pos c2] at H
    have c2b0 : decide (32 ≤ a0) = true := decide_eq_true c2
    clear c2
    obtain rfl := Option.some.inj H
    go_enter Tryd.func14, Tryd.ntmps14
    go_wp2
    go_ret
    exact ⟨by first | rfl | (simp; done) | (simp [*]; done), by repeat (first | exact Drawn0.refl _ | apply Drawn0.step)⟩
  · rw [if_neg c2] at H
    have c2b0 : decide (32 ≤ a0) = false := decide_eq_false c2
    clear c2
    obtain rfl := Option.some.inj H
    go_enter Tryd.func14, Tryd.ntmps14
    go_wp2
    go_ret
    exact ⟨by first | rfl | (simp; done) | (simp [*]; done), by repeat (first | exact Drawn0.refl _ | apply Drawn0.step)⟩

end Go.Proofs.YtmpkigambfghgaaDoor.G

/- Printed by the session's program over the kit's print, out of the translation: functions as plain Lean functions, and the proofs that the calls come to them. -/
namespace Go.Proofs.YtmpkigambfghgaaDoor.G
open Go.RowKit Go.Proofs.YtmpkigambfghgaaDoorW.PrintWords Go.Proofs.YtmpkigambfghgaaDoorW.PrintLast Go.Proofs.YtmpkigambfghgaaDoorW.PrintMore
attribute [local go_sem] max2_int min2_int max_two min_two max_three min_three max_four min_four   -- for this text's walks alone
set_option linter.unusedVariables false
set_option linter.unusedSimpArgs false

/-! ### morainelaw07_names: function 15 -/
def morainelaw07_names.f  : Option (Bool) := some true
set_option maxHeartbeats 8000000 in
set_option maxRecDepth 100000 in
theorem morainelaw07_names.calls  (r : Bool) (w : World) (h : morainelaw07_names.f  = some r) :
    Calls Tryd.prog 15 #[] w fun e w' => e = .returned (.bool r) ∧ Drawn0 w w' := by
  have H : (some true) = some r := h
  clear h
  obtain rfl := Option.some.inj H
  go_enter Tryd.func15, Tryd.ntmps15
  go_wp2
  go_ret
  exact ⟨by first | rfl | (simp; done) | (simp [*]; done), by repeat (first | exact Drawn0.refl _ | apply Drawn0.step)⟩

end Go.Proofs.YtmpkigambfghgaaDoor.G

/- Contracts typed by hand: the law JournalWrites: the bytes that each record adds, Size, what a record of any length would cost -/
namespace Go.Proofs.YtmpkigambfghgaaDoor.G
open Go.RowKit Go.Proofs.YtmpkigambfghgaaDoorW.PrintWords Go.Proofs.YtmpkigambfghgaaDoorW.PrintLast Go.Proofs.YtmpkigambfghgaaDoorW.PrintMore
attribute [local go_sem] max2_int min2_int max_two min_two max_three min_three max_four min_four
set_option linter.unusedVariables false
set_option linter.unusedSimpArgs false

/-! the law JournalWrites: the bytes that each record adds, Size, what a record of any length would cost -/
theorem numsize (l : List Int) : (strOfNums l).size = l.length := by
  show (strOfNums l).data.size = _
  rw [← Array.length_toList, strOfNums_data, List.length_map]
/-- the file's size behind some of the records, and what the last of them added -/
def szW (blk size : Nat) (rs : List (List Int)) : Nat → Nat
  | 0 => size
  | k + 1 => szW blk size rs k + (addR blk (szW blk size rs k % blk) (rec rs k)).length
def lastW (blk size : Nat) (rs : List (List Int)) : Nat → List Int
  | 0 => []
  | k + 1 => addR blk (szW blk size rs k % blk) (rec rs k)
theorem szW_le (blk : Nat) (h : 32 ≤ blk) (size : Nat) (rs : List (List Int)) : ∀ k, k ≤ rs.length → szW blk size rs k ≤ size + 23 * bulk (rs.take k)
  | 0, _ => by simp [szW, bulk]
  | k + 1, hk => by
    have ih := szW_le blk h size rs k (by omega)
    have h1 := costR_le blk h (szW blk size rs k % blk) (rec rs k).length
    have h2 : bulk [rec rs k] = (rec rs k).length + 1 := by simp [bulk]
    rw [take_snoc (by omega), bulk_append, szW, addR_len]
    omega
theorem spoil_some : ∀ (d i k : Nat) (l : List Int), i + d = l.length → l.length ≤ 1099511627776 → ∃ r, morainelaw07_spoil.l0 (k + d + 1) l (i : Int) = some r
  | 0, i, k, l, hi, hl => ⟨l, by rw [morainelaw07_spoil.l0, if_neg (by omega)]⟩
  | d + 1, i, k, l, hi, hl => by
    obtain ⟨r, hr⟩ := spoil_some d (i + 1) k (l.set i ((rd l (i : Int) + 1) % 256)) (by rw [List.length_set]; omega) (by rw [List.length_set]; exact hl)
    refine ⟨r, ?_⟩
    rw [show k + (d + 1) + 1 = (k + d + 1) + 1 by omega, morainelaw07_spoil.l0, if_pos (by omega), if_pos (by omega), Int.toNat_natCast, show wrap64 ((i : Int) + 1) = ((i + 1 : Nat) : Int) from (wr _ (by omega) (by omega)).trans (by omega)]
    exact hr
theorem wr_kept {w w' : World} {g : Nat} {blk s : Int} {S : Nat → Prop} (h : WrAt w g blk s) (hk : Kept w w' S) (hn : ¬ S g) : WrAt w' g blk s := blk_kept h hk hn
set_option maxHeartbeats 16000000 in
set_option maxRecDepth 100000 in
theorem writes_calls (blk size : Nat) (n : Int) (A0 : Option Addr) (c0 : Nat) (rs : List (List Int)) (hs : List (Option Addr × Nat × Nat)) (w : World) (h1 : 32 ≤ blk) (h2 : blk ≤ 32768) (hsz : size ≤ 4611686018427387904) (hH : Heads w rs hs) (hC : hdK.C w A0 rs.length hs) (hc0 : rs.length ≤ c0) (hby : ∀ r ∈ rs, Byt r) (hbulk : bulk rs ≤ 1048576) (hT : TabAt w) :
    Calls Tryd.prog 4 #[.agg #[.int .i64 (blk : Int), .int .i64 (size : Int), .slice A0 rs.length c0], .int .i64 n] w fun e w' => e = .returned (.bool true) ∧ Below w.heap.size w w' := by
  have HH := Aside0.mk hH
  have HC := Aside0.mk hC
  have HC0 := Aside0.mk hc0
  have HBY := Aside0.mk hby
  have HT := Aside0.mk hT
  have HBK := Aside0.mk hbulk
  have HHL := Aside0.mk hH.1
  have hnl := bulk_len rs
  have hnl2 : rs.length ≤ 1048576 := Nat.le_trans hnl hbulk
  have HCS := Aside0.mk (fun k (hk : k ≤ rs.length) => (show szW blk size rs k ≤ size + 24117248 by have := szW_le blk h1 size rs k hk; have := bulk_take rs k; omega))
  have b0 : decide ((size : Int) > 4611686018427387904) = false := decide_eq_false (by omega)
  have b9 : decide ((size : Int) < 0) = false := decide_eq_false (by omega)
  have HX := Aside0.mk (World.alloc_heap_new w (.cells #[.int .i64 (blk : Int), .int .i64 (size : Int), .slice A0 rs.length c0] 35))
  have HB0 := Aside0.mk (below_alloc (Below.refl w.heap.size w) (.cells #[.int .i64 (blk : Int), .int .i64 (size : Int), .slice A0 rs.length c0] 35))
  clear hH hC hby hT hbulk hc0 hnl
  obtain ⟨m, hm⟩ : ∃ m, rs.length = m := ⟨_, rfl⟩
  have HM := Aside0.mk hm
  rw [hm] at hnl2 HX HB0 ⊢
  clear hm
  go_enter Tryd.func4, Tryd.ntmps4
  go_wp2_with fail
  go_quiet (fail)
  obtain ⟨W0, hW0⟩ : ∃ W0, (w.alloc (.cells #[.int .i64 (blk : Int), .int .i64 (size : Int), .slice A0 m c0] 35)).drewN nq = W0 := ⟨_, rfl⟩
  have HB1 := Aside0.mk (show Below w.heap.size w W0 by rw [← hW0]; exact pw_below_drewN HB0.out _)
  rw [hW0]
  clear hW0 HX
  go_wp2_with fail
  (with_reducible refine (new_writer blk (size : Int) W0 h1 h2 (Int.natCast_nonneg _)).mono ?_)
  rintro e w3 ⟨g, rfl, hw, hg0, hb⟩
  have HW := Aside0.mk hw
  have HG := Aside0.mk hg0
  have HB2 := Aside0.mk hb
  clear hw hg0 hb
  go_wp2_with fail
  (with_reducible refine (moraineref07_Block.calls (blk : Int) true w3 (by unfold moraineref07_Block.f; rw [if_pos (by omega)]; simp; omega)).mono ?_)
  rintro e w4 ⟨rfl, hd⟩
  have HW4 := Aside0.mk (HW.out.below hd.below)
  have HB4 := Aside0.mk (below_step HB2.out hd.below)
  clear hd HW HB2
  go_wp2_with fail
  go_loopw [6, 10, 11, 12] (fun v6 v10 v11 v12 wr => ∃ (k : Nat), v12 = .int .i64 (k : Int) ∧ k ≤ m ∧ v6 = .int .i64 ((szW blk size rs k : Nat) : Int) ∧ v11 = .string (strOfNums (lastW blk size rs k)) ∧ Aside0 (Kd.R (Kd.int .u8) 5 wr W0.heap.size (fun _ => True) v10 (lastW blk size rs k)) ∧ Aside0 (WrAt wr g (blk : Int) ((szW blk size rs k : Nat) : Int)) ∧ Aside0 (Below W0.heap.size W0 wr)) (fun _ _ _ v12 _ => m - (intOf v12).toNat)
  case atStart => exact ⟨0, rfl, by omega, rfl, rfl, ⟨Kd.R_nil _ _ _ _ _⟩, HW4, HB4⟩
  case round =>
    obtain ⟨k, rfl, hkm, rfl, rfl, HO, HW, HB⟩ := hrel
    have hcs := HCS.out k (by rw [HM.out]; exact hkm)
    have HSN := Aside0.mk (show k < rs.length → szW blk size rs (k + 1) = szW blk size rs k + (addR blk (szW blk size rs k % blk) (rec rs k)).length from fun _ => rfl)
    have HLN := Aside0.mk (show lastW blk size rs (k + 1) = addR blk (szW blk size rs k % blk) (rec rs k) from rfl)
    obtain ⟨Z, hZ⟩ : ∃ Z, szW blk size rs k = Z := ⟨_, rfl⟩
    obtain ⟨L, hL⟩ : ∃ L, lastW blk size rs k = L := ⟨_, rfl⟩
    rw [hZ] at hcs HSN HLN HW ⊢
    rw [hL] at HO ⊢
    have HLB := Aside0.mk (show L.length ≤ 24117248 by
      rw [← hL]
      cases k with
      | zero => simp [lastW]
      | succ k =>
        have h3 := HCS.out (k + 1) (by rw [HM.out]; exact hkm)
        have h4 : szW blk size rs (k + 1) = szW blk size rs k + (lastW blk size rs (k + 1)).length := rfl
        have h5 := costR_le blk h1 (szW blk size rs k % blk) (rec rs k).length
        have h6 := bulk_rec (show k < rs.length by rw [HM.out]; omega)
        have h7 := HBK.out
        show (addR blk (szW blk size rs k % blk) (rec rs k)).length ≤ _
        rw [addR_len]
        omega)
    clear hZ hL
    have hz : Z ≤ 4611686018427387904 + 1099511627776 := by omega
    have HZ := Aside0.mk hz
    have hcv := fun q => own_string (P := Tryd.prog) Tryd.underlying22 Tryd.underlying5 Tryd.underlying9 (Kd.own_of_R (Kd.R_drewN HO.out q))
    obtain ⟨sL, hsL⟩ : ∃ sL, strOfNums L = sL := ⟨_, rfl⟩
    rw [hsL] at hcv ⊢
    have HSL := Aside0.mk hsL
    clear hsL
    obtain ⟨AL, cL, rfl⟩ := Kd.R_slice HO.out
    have HSIZE := Aside0.mk (fun q => q_same (wr_size g (blk : Int) (Z : Int) (by omega) (wr.drewN q) (show WrAt (wr.drewN q) g (blk : Int) (Z : Int) from HW.out)))
    have HCOST := Aside0.mk (fun q x => Calls.quiet_of (wr_costI g blk Z x (wr.drewN q) h1 h2 HZ.out (show WrAt (wr.drewN q) g (blk : Int) (Z : Int) from HW.out)))
    have HRCOST := Aside0.mk (fun q x => q_same (refcostI blk Z x (wr.drewN q) h1 h2 HZ.out))
    obtain ⟨C1, hC1⟩ : ∃ C1, costI blk (Z % blk) n = C1 := ⟨_, rfl⟩
    by_cases hlt : k < m
    · have b1 : decide ((k : Int) < (m : Int)) = true := decide_eq_true (by omega)
      have hkr : k < rs.length := by rw [HM.out]; exact hlt
      have HCW := Aside0.mk (Kd.C_below HC.out HB1.out)
      rw [HM.out] at HCW
      have HCH := Aside0.mk (show hdK.C W0 A0 m hs from HCW.out)
      obtain ⟨ad, e1, _⟩ := hd_at HCH.out k hlt
      cases e1
      have HCELL := Aside0.mk (hdr_cell HCH.out k hlt)
      have hd2 := HH.out.2 k hkr
      have hrl := bulk_rec hkr
      have HRB := Aside0.mk (HBY.out (rec rs k) (List.mem_of_getElem? (rec_get hkr)))
      have HSN2 := Aside0.mk (HSN.out hkr)
      obtain ⟨r, hr⟩ : ∃ r, rec rs k = r := ⟨_, rfl⟩
      obtain ⟨x, hx⟩ : ∃ x, hdr hs k = x := ⟨_, rfl⟩
      rw [hx, hr] at hd2
      rw [hx] at HCELL
      rw [hr] at hrl HRB HSN2 HLN
      obtain ⟨B, mr, dc⟩ := x
      obtain ⟨hmr, hdc, hrC⟩ := hd2
      simp only [] at hmr hdc hrC
      subst hmr
      have HRC := Aside0.mk hrC
      have HDC := Aside0.mk hdc
      have hr1 : r.length ≤ 1048576 := by have := HBK.out; omega
      have HR1 := Aside0.mk hr1
      have HR2 := Aside0.mk (show r.length ≤ 140737488355000 by omega)
      obtain ⟨D, hD⟩ : ∃ D, addR blk (Z % blk) r = D := ⟨_, rfl⟩
      have HDL := Aside0.mk (show D.length ≤ 2 * r.length + 21 by rw [← hD, addR_len]; exact costR_le blk h1 _ _)
      rw [hD] at HSN2 HLN
      have HD := Aside0.mk hD
      obtain ⟨C2, hC2⟩ : ∃ C2, costI blk (Z % blk) (r.length : Int) = C2 := ⟨_, rfl⟩
      have HN1 := Aside0.mk (fun q => show Calls Tryd.prog 12 #[.pointer (some ⟨g, 0, none⟩), .int .i64 n] (wr.drewN q) _ from HCOST.out q n)
      have HN2 := Aside0.mk (fun q => show Calls Tryd.prog 12 #[.pointer (some ⟨g, 0, none⟩), .int .i64 (r.length : Int)] (wr.drewN q) _ from HCOST.out q (r.length : Int))
      have HM1 := Aside0.mk (fun q => show Calls Tryd.prog 16 #[.int .i64 (blk : Int), .int .i64 (Z : Int), .int .i64 n] (wr.drewN q) _ from HRCOST.out q n)
      have HM2 := Aside0.mk (fun q => show Calls Tryd.prog 16 #[.int .i64 (blk : Int), .int .i64 (Z : Int), .int .i64 (r.length : Int)] (wr.drewN q) _ from HRCOST.out q (r.length : Int))
      rw [hC1] at HN1 HM1
      rw [hC2] at HN2 HM2
      have hq1 := HCELL.out wr HB.out
      have hq2 := fun q => HCELL.out (wr.drewN q) (pw_below_drewN HB.out q)
      have hk1 : k ≤ 1048576 := by omega
      have b5 : decide ((r.length : Int) > 2097152) = false := decide_eq_false (by omega)
      clear hrC hdc hrl hr hx hD hC1 hC2 hkr b0 b9 HCOST HRCOST HCW
      go_wp2_with fail
      go_quiet (first | (go_at_call 11; with_reducible exact HSIZE.out _) | (go_at_call 12; first | with_reducible exact HN1.out _ | with_reducible exact HN2.out _) | (go_at_call 16; first | with_reducible exact HM1.out _ | with_reducible exact HM2.out _))
      obtain ⟨WN, hWN⟩ : ∃ WN, wr.drewN nq = WN := ⟨_, rfl⟩
      have HBN := Aside0.mk (show Below W0.heap.size W0 WN by rw [← hWN]; exact pw_below_drewN HB.out nq)
      have HWN := Aside0.mk (show WrAt WN g (blk : Int) (Z : Int) by rw [← hWN]; exact HW.out)
      have HON := Aside0.mk (show Kd.R (Kd.int .u8) 5 WN W0.heap.size (fun k => True ∧ k ≠ g) (.slice AL L.length cL) L by rw [← hWN]; exact Kd.R_types (Kd.R_drewN HO.out nq) (show WrAt (wr.drewN nq) g (blk : Int) (Z : Int) from HW.out) (by decide))
      rw [hWN]
      have hsp := spoil_some L.length 0 0 L (by omega) (by have := HLB.out; omega)
      obtain ⟨L2, hL2⟩ := hsp
      have HSP := Aside0.mk (show morainelaw07_spoil.f (0 + L.length + 1) L = some L2 from hL2)
      clear hWN hL2 hcv hq1 hq2 HSIZE HN1 HN2 HM1 HM2 HB HW HO HLB
      go_wp2_with fail
      (with_reducible refine (morainelaw07_spoil.calls (0 + L.length + 1) (fun k => True ∧ k ≠ g) (.slice AL L.length cL) L L2 W0 WN HBN.out HON.out HSP.out).mono ?_)
      rintro e w5 ⟨rfl, ho, hb, hk⟩
      have HW5 := Aside0.mk (wr_kept HWN.out hk (fun h => h.2 rfl))
      have HB5 := Aside0.mk hb
      have hq5 := HCELL.out w5 HB5.out
      clear ho hb hk HWN HBN HON
      go_wp2_with fail
      (with_reducible refine (morainelaw07_lent.calls B dc r w5 (Kd.C_below (Kd.C_below HRC.out HB1.out) HB5.out) HDC.out HR2.out).mono ?_)
      rintro e w6 ⟨Ai, ci, rfl, ho, hb⟩
      have HI6 := Aside0.mk (Kd.R_lower ho HB5.out.size)
      have HIC := Aside0.mk (show r.length + 1 ≤ ci by have := (Kd.R_reads' ho).2.1; simpa using this)
      have HIP := Aside0.mk (C_prefix (ys := [90]) (by simpa using (Kd.R_reads' ho).2.2))
      have HW6 := Aside0.mk (HW5.out.below hb)
      have HB6 := Aside0.mk (below_step HB5.out hb)
      clear ho hb hq5 HW5 HB5
      go_wp2_with fail
      (with_reducible refine (wr_add g blk Z Ai ci r w6 h1 h2 HZ.out HW6.out ((HT.out.below HB1.out).below HB6.out) HIP.out (by have := HIC.out; omega) HRB.out (by have := HR1.out; omega)).mono ?_)
      rintro e w7 ⟨vd, rfl, hdR, hw7, w6', hb6, rfl⟩
      rw [HD.out] at hdR hw7 ⊢
      have hw6' := HW6.out.below hb6
      have HB7 := Aside0.mk (below_set (v := .int .i64 ((Z + D.length : Nat) : Int)) (j := 1) (below_step HB6.out hb6) HG.out)
      have HI7 := Aside0.mk (wr_set hw6' (Kd.R_below HI6.out hb6) (by decide) (.int .i64 ((Z + D.length : Nat) : Int)))
      have HD7 := Aside0.mk (Kd.R_lower hdR HB6.out.size)
      have HW7 := Aside0.mk hw7
      obtain ⟨AD, cD, rfl⟩ := Kd.R_slice hdR
      generalize w6'.setCell ⟨g, 1, none⟩ (.int .i64 ((Z + D.length : Nat) : Int)) = W7 at *
      have hq7 := HCELL.out W7 HB7.out
      clear hw6' hb6 hw7 hdR HW6 HB6 HI6 HIP
      go_wp2_with fail
      (with_reducible refine (refadd_calls blk Z B dc r W7 h1 h2 HZ.out (Kd.C_below (Kd.C_below HRC.out HB1.out) HB7.out) HDC.out HRB.out (by have := HR1.out; omega)).mono ?_)
      rintro e w8 ⟨v8, rfl, ho, hb⟩
      rw [HD.out] at ho
      have HI8 := Aside0.mk (Kd.R_below HI7.out hb)
      have HD8 := Aside0.mk (Kd.R_below HD7.out hb)
      have HW8 := Aside0.mk (HW7.out.below hb)
      have HB8 := Aside0.mk (below_step HB7.out hb)
      have hcv8 := own_string (P := Tryd.prog) Tryd.underlying22 Tryd.underlying5 Tryd.underlying9 (Kd.own_of_R ho)
      have hcvd := own_string (P := Tryd.prog) Tryd.underlying22 Tryd.underlying5 Tryd.underlying9 (Kd.own_of_R HD8.out)
      obtain ⟨A8, c8, rfl⟩ := Kd.R_slice ho
      obtain ⟨sD, hsD⟩ : ∃ sD, strOfNums D = sD := ⟨_, rfl⟩
      have HSD := Aside0.mk hsD
      have hsl : sD.size = D.length := by rw [← hsD]; exact numsize D
      rw [hsD] at hcv8 hcvd
      have hq8 := HCELL.out w8 HB8.out
      clear hsD ho hb hq7 HB7 HI7 HD7 HW7
      go_wp2_with fail
      (with_reducible refine (morainelaw07_kept.calls Ai ci r B dc w8 (by simpa using (Kd.R_reads' HI8.out).2.2) HIC.out (Kd.C_below (Kd.C_below HRC.out HB1.out) HB8.out) HR2.out).mono ?_)
      rintro e w9 ⟨rfl, hd⟩
      have HD9 := Aside0.mk (Kd.R_below HD8.out hd.below)
      have HW9 := Aside0.mk (HW8.out.below hd.below)
      have HB9 := Aside0.mk (below_step HB8.out hd.below)
      have hz2 := HZ.out
      have hdl2 := HDL.out
      clear hd hq8 hcv8 hcvd
      go_wp2
      go_roundw
      case rel => exact ⟨k + 1, by go_num, by omega, by rw [HSN2.out]; push_cast; rfl, by rw [HLN.out, HSD.out], ⟨by rw [HLN.out]; exact HD9.out⟩, ⟨by rw [HSN2.out]; exact HW9.out⟩, HB9⟩
      case measure => simp only [intOf]; omega
    · have b1 : decide ((k : Int) < (m : Int)) = false := decide_eq_false (by omega)
      clear HSIZE HRCOST HCOST hcs HSN HLN
      go_wp2_with fail
      (with_reducible refine (wr_size g (blk : Int) (Z : Int) (by omega) wr HW.out).mono ?_)
      rintro e w5 ⟨rfl, rfl⟩
      go_wp2_with fail
      (with_reducible refine (wr_costI g blk Z n wr h1 h2 HZ.out HW.out).mono ?_)
      rintro e w5 ⟨rfl, m1, rfl⟩
      rw [hC1]
      go_wp2_with fail
      (with_reducible refine (refcostI blk Z n _ h1 h2 HZ.out).mono ?_)
      rintro e w6 ⟨rfl, rfl⟩
      rw [hC1]
      have hcv2 := hcv m1
      clear hcv
      go_wp2_with fail
      (with_reducible refine (morainelaw07_names.calls true _ rfl).mono ?_)
      rintro e w7 ⟨rfl, hd⟩
      have HB7 := Aside0.mk (below_step HB1.out (below_step (pw_below_drewN HB.out m1) hd.below))
      clear hd
      go_wp2
      go_ret
      exact ⟨rfl, HB7.out⟩
theorem isblock_eq (b : Int) : journal_isBlock.f b = some (decide (32 ≤ b ∧ b ≤ 32768)) := by
  unfold journal_isBlock.f
  by_cases h : b ≥ 32
  · rw [if_pos h]; congr 1; rw [Bool.eq_iff_iff]; simp; omega
  · rw [if_neg h, decide_eq_false (by omega)]
theorem refblock_eq (b : Int) : moraineref07_Block.f b = some (decide (32 ≤ b ∧ b ≤ 32768)) := by
  unfold moraineref07_Block.f
  by_cases h : b ≥ 32
  · rw [if_pos h]; congr 1; rw [Bool.eq_iff_iff]; simp; omega
  · rw [if_neg h, decide_eq_false (by omega)]
set_option maxHeartbeats 2000000 in
theorem new_writer_bad (blk size : Int) (w : World) (h : ¬ (32 ≤ blk ∧ blk ≤ 32768) ∨ size < 0) :
    Calls Tryd.prog 13 #[.int .i64 blk, .int .i64 size] w fun e w' => e = .returned (.tuple #[.pointer none, .int .i64 2]) ∧ Below w.heap.size w w' := by
  obtain ⟨b, hb⟩ : ∃ b, decide (32 ≤ blk ∧ blk ≤ 32768) = b := ⟨_, rfl⟩
  have HI := Aside0.mk (journal_isBlock.calls blk b w (by rw [isblock_eq, hb]))
  cases b with
  | true =>
    have hc : decide (size < 0) = true := decide_eq_true (h.resolve_left (by simpa using hb))
    clear h hb
    go_enter Tryd.func13, Tryd.ntmps13
    go_wp2_with fail
    (with_reducible refine HI.out.mono ?_)
    rintro e w1 ⟨rfl, hd⟩
    have HB := Aside0.mk hd.below
    clear hd
    go_wp2
    go_ret2
    exact ⟨rfl, HB.out⟩
  | false =>
    clear h hb
    go_enter Tryd.func13, Tryd.ntmps13
    go_wp2_with fail
    (with_reducible refine HI.out.mono ?_)
    rintro e w1 ⟨rfl, hd⟩
    have HB := Aside0.mk hd.below
    clear hd
    go_wp2
    go_ret2
    exact ⟨rfl, HB.out⟩
set_option maxHeartbeats 4000000 in
set_option maxRecDepth 100000 in
theorem writes_big (blk size n : Int) (A0 : Option Addr) (m c0 : Nat) (w : World) (h : size > 4611686018427387904) :
    Calls Tryd.prog 4 #[.agg #[.int .i64 blk, .int .i64 size, .slice A0 m c0], .int .i64 n] w fun e w' => e = .returned (.bool true) ∧ Below w.heap.size w w' := by
  have b0 : decide (size > 4611686018427387904) = true := decide_eq_true h
  have HB0 := Aside0.mk (below_alloc (Below.refl w.heap.size w) (.cells #[.int .i64 blk, .int .i64 size, .slice A0 m c0] 35))
  clear h
  go_enter Tryd.func4, Tryd.ntmps4
  go_wp2_with fail
  go_quiet (fail)
  go_wp2
  go_ret
  exact ⟨rfl, pw_below_drewN HB0.out _⟩
set_option maxHeartbeats 4000000 in
set_option maxRecDepth 100000 in
theorem writes_bad (blk size n : Int) (A0 : Option Addr) (m c0 : Nat) (w : World) (h0 : ¬ size > 4611686018427387904) (h : ¬ (32 ≤ blk ∧ blk ≤ 32768) ∨ size < 0) :
    Calls Tryd.prog 4 #[.agg #[.int .i64 blk, .int .i64 size, .slice A0 m c0], .int .i64 n] w fun e w' => e = .returned (.bool true) ∧ Below w.heap.size w w' := by
  have b0 : decide (size > 4611686018427387904) = false := decide_eq_false h0
  have HB0 := Aside0.mk (below_alloc (Below.refl w.heap.size w) (.cells #[.int .i64 blk, .int .i64 size, .slice A0 m c0] 35))
  have HNW := Aside0.mk (fun W => new_writer_bad blk size W h)
  have hor : decide (32 ≤ blk ∧ blk ≤ 32768) = false ∨ (decide (32 ≤ blk ∧ blk ≤ 32768) = true ∧ decide (size < 0) = true) := by
    by_cases hv : 32 ≤ blk ∧ blk ≤ 32768
    · exact .inr ⟨decide_eq_true hv, decide_eq_true (h.resolve_left (fun h' => h' hv))⟩
    · exact .inl (decide_eq_false hv)
  clear h h0
  go_enter Tryd.func4, Tryd.ntmps4
  go_wp2_with fail
  go_quiet (fail)
  obtain ⟨W0, hW0⟩ : ∃ W0, (w.alloc (.cells #[.int .i64 blk, .int .i64 size, .slice A0 m c0] 35)).drewN nq = W0 := ⟨_, rfl⟩
  have HB1 := Aside0.mk (show Below w.heap.size w W0 by rw [← hW0]; exact pw_below_drewN HB0.out _)
  rw [hW0]
  clear hW0 HB0
  go_wp2_with fail
  (with_reducible refine (HNW.out W0).mono ?_)
  rintro e w3 ⟨rfl, hb⟩
  have HB3 := Aside0.mk (below_step HB1.out hb)
  clear hb HNW
  rcases hor with h | ⟨h, hs⟩
  all_goals
    have HBK := Aside0.mk (moraineref07_Block.calls blk _ w3 (refblock_eq blk))
    rw [h] at HBK
    clear h
    go_wp2_with fail
    (with_reducible refine HBK.out.mono ?_)
    rintro e w4 ⟨rfl, hd⟩
    have HB4 := Aside0.mk (below_step HB3.out hd.below)
    clear hd HBK
    go_wp2_with fail
    (with_reducible refine (morainelaw07_names.calls true _ rfl).mono ?_)
    rintro e w5 ⟨rfl, hd⟩
    have HB5 := Aside0.mk (below_step HB4.out hd.below)
    clear hd
    go_wp2
    go_ret
    exact ⟨rfl, HB5.out⟩
theorem JournalWrites_upto (w : World) (cs0 : Array Value) (x0 : Int × Int × List (List Int)) (hK0 : (Kd.pair (Kd.int .i64) (Kd.pair (Kd.int .i64) (Kd.slice 22 (Kd.slice 5 (Kd.int .u8))))).K w x0 cs0.toList) (hg0 : (Lit.int .i64 x0.1).wf = true ∧ (Lit.int .i64 x0.2.1).wf = true ∧ (∀ x ∈ x0.2.2, ∀ y ∈ x, (Lit.int .u8 y).wf = true)) (a1 : Int) (hg1 : (Lit.int .i64 a1).wf = true)
    (hbulk : (1 + 1 + (sumBulk (fun l : List Int => sumBulk (fun _ : Int => 1) l + 1) x0.2.2 + 1) + 1) + 1 ≤ 1048576) (hTab : TabAt w) :
    Calls Tryd.prog 4 #[.agg cs0, .int .i64 a1] w fun e w' => e = .returned (.bool true) ∧ Below w.heap.size w w' := by
  obtain ⟨ca, cb1, hcs, ha, cb2, cc, hcc, hb, hc⟩ := hK0
  obtain ⟨A0, c0, hl, hc0, hC0⟩ := hc
  have e1 : ca = [.int .i64 x0.1] := ha
  have e2 : cb2 = [.int .i64 x0.2.1] := hb
  have e3 : cs0 = #[.int .i64 x0.1, .int .i64 x0.2.1, .slice A0 x0.2.2.length c0] := by
    apply Array.toList_inj.1
    rw [hcs, hcc, e1, e2, hl]
    rfl
  subst e3
  obtain ⟨xb, xs, rs⟩ := x0
  obtain ⟨g0, g1, g2⟩ := hg0
  dsimp only at hbulk hC0 hc0 g0 g1 g2 ⊢
  by_cases hbig : xs > 4611686018427387904
  · exact writes_big xb xs a1 A0 rs.length c0 w hbig
  · by_cases hv : (32 ≤ xb ∧ xb ≤ 32768) ∧ 0 ≤ xs
    · obtain ⟨blk, rfl⟩ := Int.eq_ofNat_of_zero_le (show 0 ≤ xb by omega)
      obtain ⟨size, rfl⟩ := Int.eq_ofNat_of_zero_le hv.2
      obtain ⟨hs, hH, hC⟩ := heads_of hC0
      exact writes_calls blk size a1 A0 c0 rs hs w (by omega) (by omega) (by omega) hH hC hc0 (byt_recs g2) (by rw [bulk_of]; omega) hTab
    · exact writes_bad xb xs a1 A0 rs.length c0 w hbig (by omega)

end Go.Proofs.YtmpkigambfghgaaDoor.G
