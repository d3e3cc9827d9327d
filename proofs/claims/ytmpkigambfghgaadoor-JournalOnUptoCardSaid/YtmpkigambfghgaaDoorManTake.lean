/- Contracts typed by hand: check.take: a register takes a byte, by the table of half bytes -/
import Derived.Test.YtmpkigambfghgaaDoorProg
import Derived.Below
import Derived.Deep.Draws
import Derived.Deep.AppendLies
import Derived.Maps.AppendAt
import Derived.OwnWalk
import Derived.Laws.BytesArg
import Derived.Laws.MakeOwn
import Derived.Laws.OwnMore
import Derived.Deep.OwnRows
import Derived.Tactics
import Derived.Lib.ConvBytes
import Derived.Laws.Slices
import Derived.WalkKit
import Derived.KernelRfl
import Derived.RowKit3
import Derived.Deep.LoopGhost
import Derived.Deep.QuietTactic
import Derived.BigQuiet
import Derived.WideLaws
import Derived.Deep.DeepCutAuto
import Derived.Deep.CutBlock
import Derived.Deep.RegionHeld3
import Derived.Laws.Rows
import Derived.Lib.AppendStr
import Derived.ArgAppend
import Derived.Laws.IdiomCopy
import Derived.OrdersHeld
import Derived.Laws.BitsLemmas
import Derived.RowKit
import Derived.Test.YtmpkigambfghgaaDoorWWords
import Derived.Test.YtmpkigambfghgaaDoorWLast
import Derived.Test.YtmpkigambfghgaaDoorWTab
import Derived.Test.YtmpkigambfghgaaDoorWFour
import Derived.Test.YtmpkigambfghgaaDoorWQPut
import Derived.Test.YtmpkigambfghgaaDoorWApart
import Derived.Test.YtmpkigambfghgaaDoorWArr
import Derived.Test.YtmpkigambfghgaaDoorWZeros
import Derived.Test.YtmpkigambfghgaaDoorWFoot
import Derived.Test.YtmpkigambfghgaaDoorWKept
import Derived.Test.YtmpkigambfghgaaDoorWShare
import Derived.Test.YtmpkigambfghgaaDoorWN
import Derived.Test.YtmpkigambfghgaaDoorWFootNe
import Derived.Test.YtmpkigambfghgaaDoorWAt
import Derived.Test.YtmpkigambfghgaaDoorWEqStruct
import Derived.Test.YtmpkigambfghgaaDoorWRepsOne
import Derived.Test.YtmpkigambfghgaaDoorWInv
import Derived.Test.YtmpkigambfghgaaDoorWInvWords
import Derived.Test.YtmpkigambfghgaaDoorWGuard
import Derived.Test.YtmpkigambfghgaaDoorWNEv
import Derived.Test.YtmpkigambfghgaaDoorWMore
import Derived.Test.YtmpkigambfghgaaDoorPureCrc
import Derived.Laws.BitsAllLaws
namespace Go.Proofs.YtmpkigambfghgaaDoor.G
open Go.RowKit Go.Proofs.YtmpkigambfghgaaDoorW.PrintWords Go.Proofs.YtmpkigambfghgaaDoorW.PrintLast Go.Proofs.YtmpkigambfghgaaDoorW.PrintMore
attribute [local go_sem] max2_int min2_int max_two min_two max_three min_three max_four min_four
set_option linter.unusedVariables false
set_option linter.unusedSimpArgs false

/-! check.take: a register takes a byte, by the table of half bytes -/
def shortL : List Nat := [0, 274646895, 549293790, 820201905, 1098587580, 1361435347, 1640403810, 1905808397, 2197175160, 2460548119, 2722870694, 2987750089, 3280807620, 3553878443, 3811616794, 4084100981]
/-- the table lies where the program's first variable lies -/
structure TabAt (w : World) : Prop where
  cell : ∀ i : Nat, i < 16 → w.cell? ⟨0, i, none⟩ = some (.int .u32 ((shortL.getD i 0 : Nat) : Int))
theorem TabAt.blk {w : World} (h : TabAt w) : 0 < w.heap.size := World.block_lt_of_cell? w _ (h.cell 0 (by omega))
theorem TabAt.below {w w1 : World} (h : TabAt w) (hb : Below w.heap.size w w1) : TabAt w1 := ⟨fun i hi => (hb.cell (p := ⟨0, i, none⟩) h.blk).trans (h.cell i hi)⟩
theorem TabAt.drewN {w : World} (h : TabAt w) (n : Nat) : TabAt (w.drewN n) := h.below (pw_below_drewN (Below.refl _ _) n)
theorem TabAt.drew {w : World} (h : TabAt w) : TabAt w.drew := h.below (below_drew (Below.refl _ _))
theorem TabAt.alloc {w : World} (h : TabAt w) (o : Obj) : TabAt (w.alloc o) := h.below (below_alloc (Below.refl _ _) o)
theorem shortL_lt (i : Nat) (h : i < 16) : shortL.getD i 0 < 4294967296 := by
  have : ∀ j : Fin 16, shortL.getD j.1 0 < 4294967296 := by decide
  exact this ⟨i, h⟩
theorem shortL_crc (i : Nat) (h : i < 16) : shortL.getD i 0 = crcN 4 i := by
  have : ∀ j : Fin 16, shortL.getD j.1 0 = crcN 4 j.1 := by decide
  exact this ⟨i, h⟩
theorem take_step (r : Nat) : r / 16 ^^^ shortL.getD (r % 16) 0 = crcN 4 r := by
  rw [shortL_crc _ (by omega)]
  exact (crcN_split 4 r).symm
theorem and15 (r : Nat) (h : r < 4294967296) : bits .and .u32 (r : Int) 15 = ((r % 16 : Nat) : Int) := by
  rw [show (15 : Int) = ((15 : Nat) : Int) by rfl, u32_and_nat r 15 h (by omega)]
  congr 1
  have := Nat.and_two_pow_sub_one_eq_mod r 4
  simpa using this
def check_take.f (a0 a1 : Int) : Option Int := if 0 ≤ a0 ∧ a0 < 4294967296 ∧ 0 ≤ a1 ∧ a1 < 256 then some ((crcN 8 (a0.toNat ^^^ a1.toNat) : Nat) : Int) else none
set_option maxHeartbeats 1000000 in
theorem check_take.calls (a0 a1 : Int) (r : Int) (w : World) (h : check_take.f a0 a1 = some r) (hTab : TabAt w) :
    Calls Tryd.prog 47 #[.int .u32 a0, .int .u8 a1] w fun e w' => e = .returned (.int .u32 r) ∧ Drawn0 w w' := by
  unfold check_take.f at h
  by_cases hc : 0 ≤ a0 ∧ a0 < 4294967296 ∧ 0 ≤ a1 ∧ a1 < 256
  · rw [if_pos hc] at h
    obtain rfl := Option.some.inj h
    clear h
    obtain ⟨c0, c1, c2, c3⟩ := hc
    obtain ⟨a, rfl⟩ := Int.eq_ofNat_of_zero_le c0
    obtain ⟨b, rfl⟩ := Int.eq_ofNat_of_zero_le c2
    rw [Int.toNat_natCast, Int.toNat_natCast]
    have hx : bits .xor .u32 (a : Int) (b : Int) = ((a ^^^ b : Nat) : Int) := u32_xor_nat a b (by omega) (by omega)
    have hlt : a ^^^ b < 4294967296 := xor_lt (by omega) (by omega)
    generalize a ^^^ b = x at *
    obtain ⟨z, hz⟩ : ∃ z, crcN 8 x = z := ⟨_, rfl⟩
    rw [hz]
    have HZ := Aside0.mk hz
    clear hz
    have HT := Aside0.mk hTab
    clear hTab
    go_enter Tryd.func47, Tryd.ntmps47
    go_wp2
    go_loop [0, 9] (fun v0 v9 => ∃ (k r : Nat), k ≤ 2 ∧ v9 = .int .i64 (k : Int) ∧ v0 = .int .u32 (r : Int) ∧ r < 4294967296 ∧ Aside0 (crcN (8 - 4 * k) r = z)) (fun _ v9 => 2 - (intOf v9).toNat)
    case atStart => exact ⟨0, x, by omega, rfl, rfl, hlt, HZ⟩
    case round =>
      clear HZ hx hlt
      obtain ⟨k, r, hk, rfl, rfl, hr, HR⟩ := hrel
      by_cases hk2 : k < 2
      · have hcell := HT.out.cell (r % 16) (by omega)
        have hs := shortL_lt (r % 16) (by omega)
        have ha := and15 r hr
        have hd : (r : Int) / 16 = ((r / 16 : Nat) : Int) := by omega
        have hn := u32_xor_nat (r / 16) (shortL.getD (r % 16) 0) (by omega) hs
        have hnl : r / 16 ^^^ shortL.getD (r % 16) 0 < 4294967296 := xor_lt (by omega) hs
        have hst := take_step r
        have hq : r % 16 < 16 := by omega
        generalize hi : r % 16 = i at *
        generalize shortL.getD i 0 = s at *
        generalize hj : r / 16 = j at *
        generalize j ^^^ s = m at *
        have HST := Aside0.mk hst
        have HI := Aside0.mk hi
        have HJ := Aside0.mk hj
        have b1 : decide ((k : Int) < 2) = true := decide_eq_true (by omega)
        clear hst hi hj
        go_wp2
        go_round
        case rel =>
          refine ⟨k + 1, m, by omega, by go_num, rfl, hnl, ⟨?_⟩⟩
          rw [HST.out, ← crcN_add, ← HR.out]
          congr 1
          omega
        case measure => simp [intOf]; omega
      · obtain rfl : k = 2 := by omega
        have hz := HR.out
        simp only [Nat.reduceMul, Nat.sub_self, crcN] at hz
        subst hz
        go_wp2
        go_ret
        exact ⟨rfl, Drawn0.refl _⟩
  · rw [if_neg hc] at h
    cases h

end Go.Proofs.YtmpkigambfghgaaDoor.G
