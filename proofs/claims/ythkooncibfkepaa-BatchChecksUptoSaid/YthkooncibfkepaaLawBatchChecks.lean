/- Contracts typed by hand: the law BatchChecks: its walk -/
import Derived.Test.YthkooncibfkepaaProg
import Derived.Below
import Derived.Deep.Draws
import Derived.Deep.AppendLies
import Derived.Maps.AppendAt
import Derived.OwnWalk
import Derived.Laws.BytesArg
import Derived.Laws.MakeOwn
import Derived.Laws.OwnMore
import Derived.Deep.OwnRows
import Derived.Tactics
import Derived.Lib.ConvBytes
import Derived.Laws.Slices
import Derived.WalkKit
import Derived.KernelRfl
import Derived.RowKit3
import Derived.Deep.LoopGhost
import Derived.Deep.QuietTactic
import Derived.BigQuiet
import Derived.WideLaws
import Derived.Deep.DeepCutAuto
import Derived.Deep.CutBlock
import Derived.Deep.RegionHeld3
import Derived.Laws.Rows
import Derived.Lib.AppendStr
import Derived.ArgAppend
import Derived.Laws.IdiomCopy
import Derived.OrdersHeld
import Derived.Laws.BitsLemmas
import Derived.RowKit
import Derived.Test.YthkooncibfkepaaWWords
import Derived.Test.YthkooncibfkepaaWLast
import Derived.Test.YthkooncibfkepaaWTab
import Derived.Test.YthkooncibfkepaaWFour
import Derived.Test.YthkooncibfkepaaWQPut
import Derived.Test.YthkooncibfkepaaWApart
import Derived.Test.YthkooncibfkepaaWArr
import Derived.Test.YthkooncibfkepaaWZeros
import Derived.Test.YthkooncibfkepaaWFoot
import Derived.Test.YthkooncibfkepaaWKept
import Derived.Test.YthkooncibfkepaaWShare
import Derived.Test.YthkooncibfkepaaWN
import Derived.Test.YthkooncibfkepaaWFootNe
import Derived.Test.YthkooncibfkepaaWAt
import Derived.Test.YthkooncibfkepaaWEqStruct
import Derived.Test.YthkooncibfkepaaWRepsOne
import Derived.Test.YthkooncibfkepaaWInv
import Derived.Test.YthkooncibfkepaaWInvWords
import Derived.Test.YthkooncibfkepaaWGuard
import Derived.Test.YthkooncibfkepaaWNEv
import Derived.Test.YthkooncibfkepaaWMore
import Derived.Test.YthkooncibfkepaaLawBatchPure
import Derived.Test.YthkooncibfkepaaManStay04
import Derived.Test.YthkooncibfkepaaOpens
import Derived.Test.YthkooncibfkepaaGx2
import Derived.Test.YthkooncibfkepaaGx14
import Derived.Test.YthkooncibfkepaaGx15
namespace Go.Proofs.Ythkooncibfkepaa.G
open Go.RowKit Go.Proofs.YthkooncibfkepaaW.PrintWords Go.Proofs.YthkooncibfkepaaW.PrintLast Go.Proofs.YthkooncibfkepaaW.PrintMore
attribute [local go_sem] max2_int min2_int max_two min_two max_three min_three max_four min_four
set_option linter.unusedVariables false
set_option linter.unusedSimpArgs false

/-! the law BatchChecks: its walk -/
theorem copied_out {A : Option Addr} {c : Nat} {l : List S65} {w : World} {b : Nat} {ok : Nat → Prop} (h : Kd.R k65 65 w b ok (.slice A (l.length + 1) c) (l ++ [mark04])) : Kd.C k65 w A (l.length + 1) (l ++ [mark04]) ∧ l.length + 1 ≤ c := by
  have := Kd.R_reads' h
  rw [mark04_len] at this
  exact ⟨this.2.2, this.2.1⟩
set_option maxHeartbeats 4000000 in
set_option maxRecDepth 100000 in
theorem BatchChecks_calls (k : Nat) (A0 : Option Addr) (c0 : Nat) (l0 : List S65) (w : World) (hc0 : l0.length ≤ c0) (hr0 : Kd.C k65 w A0 l0.length l0) (hl : l0.length ≤ 2097152) (r1 r2 s1 s2 : Int)
    (h1 : batch_Check.f k l0 = some (r1, r2)) (h2 : moraineref04_Check.f k l0 = some (r1, r2)) (h3 : batch_Size.f k l0 = some (s1, s2)) (h4 : moraineref04_Size.f k l0 = some (s1, s2)) :
    Calls Try.prog 3 #[.slice A0 l0.length c0] w fun e w' => e = .returned (.bool true) ∧ Below w.heap.size w w' := by
  have HR0 := Aside0.mk hr0
  have HC0 := Aside0.mk hc0
  have HL := Aside0.mk hl
  have H1 := Aside0.mk h1
  have H2 := Aside0.mk h2
  have H3 := Aside0.mk h3
  have H4 := Aside0.mk h4
  clear hc0 hr0 hl h1 h2 h3 h4
  go_enter Try.func3, Try.ntmps3
  go_wp2_with fail
  (with_reducible refine (morainelaw04_names.calls true _ rfl).mono ?_)
  rintro e w1 ⟨rfl, hd⟩
  have HB1 := Aside0.mk hd.below
  clear hd
  go_wp2_with fail
  (with_reducible refine (morainelaw04_copied.calls A0 c0 l0 _ (Kd.C_below HR0.out HB1.out) HL.out).mono ?_)
  rintro e w2 ⟨A2, c2, rfl, ho, hb⟩
  have HB2 := Aside0.mk (below_step HB1.out hb)
  have HO2 := Aside0.mk (copied_out ho)
  have HP2 := Aside0.mk (C_prefix65 (ys := [mark04]) (copied_out ho).1)
  have HC2 := Aside0.mk (show l0.length ≤ c2 by have := (copied_out ho).2; omega)
  clear hb ho
  go_wp2_with fail
  (with_reducible refine (batch_Check.calls k A2 c2 l0 _ _ _ HP2.out HC2.out H1.out).mono ?_)
  rintro e w3 ⟨rfl, hb⟩
  have HB3 := Aside0.mk (below_step HB2.out hb)
  have HN3 := Aside0.mk hb
  clear hb
  go_wp2_with fail
  (with_reducible refine (moraineref04_Check.calls k A0 c0 l0 _ _ _ (Kd.C_below HR0.out HB3.out) HC0.out H2.out).mono ?_)
  rintro e w4 ⟨rfl, hb⟩
  have HB4 := Aside0.mk (below_step HB3.out hb)
  have HN4 := Aside0.mk (below_step HN3.out hb)
  clear hb
  go_wp2_with fail
  (with_reducible refine (batch_Size.calls k A2 c2 l0 _ _ _ (Kd.C_below HP2.out HN4.out) HC2.out H3.out).mono ?_)
  rintro e w5 ⟨rfl, hb⟩
  have HB5 := Aside0.mk (below_step HB4.out hb)
  have HN5 := Aside0.mk (below_step HN4.out hb)
  clear hb
  go_wp2_with fail
  (with_reducible refine (moraineref04_Size.calls k A0 c0 l0 _ _ _ (Kd.C_below HR0.out HB5.out) HC0.out H4.out).mono ?_)
  rintro e w6 ⟨rfl, hb⟩
  have HB6 := Aside0.mk (below_step HB5.out hb)
  have HN6 := Aside0.mk (below_step HN5.out hb)
  clear hb
  go_wp2_with fail
  (with_reducible refine (morainelaw04_stay.calls A2 c2 l0 A0 c0 _ (Kd.C_below HO2.out.1 HN6.out) HO2.out.2 (Kd.C_below HR0.out HB6.out) HC0.out HL.out).mono ?_)
  rintro e w7 ⟨rfl, hd⟩
  have HB7 := Aside0.mk (below_step HB6.out hd.below)
  clear hd
  go_wp2
  go_ret
  exact ⟨by simp, HB7.out⟩
theorem sane_of_bulk {l : List S65} (h : sumBulk (fun x : S65 => 1 + (x.f1.size + 1) + (x.f2.size + 1) + 1) l ≤ 1048576) : Sane l := by
  refine ⟨Nat.le_trans (sumBulk_len _ (fun x => by omega) l) h, fun x hx => ?_⟩
  have := sumBulk_mem (fun x : S65 => 1 + (x.f1.size + 1) + (x.f2.size + 1) + 1) hx
  (try simp only [] at this)
  omega
theorem BatchChecks_upto (w : World) (A0 : Option Addr) (c0 : Nat) (l0 : List S65) (hc0 : l0.length ≤ c0) (hr0 : Kd.C k65 w A0 l0.length l0) (hg0 : ∀ x ∈ l0, (Lit.int .i64 x.f0).wf = true ∧ x.f1.size ≤ maxLen ∧ x.f2.size ≤ maxLen)
    (hbulk : (sumBulk (fun x : S65 => 1 + (x.f1.size + 1) + (x.f2.size + 1) + 1) l0 + 1) ≤ 1048576) :
    Calls Try.prog 3 #[.slice A0 l0.length c0] w fun e w' => e = .returned (.bool true) ∧ Below w.heap.size w w' := by
  have hs := sane_of_bulk (l := l0) (by omega)
  have hl := hs.1
  exact BatchChecks_calls (13 + 2 * l0.length) A0 c0 l0 w hc0 hr0 (by omega) _ _ _ _ (check_eq _ l0 hs (by omega)) (refcheck_eq _ l0 hs (by omega)) (batchsize_eq _ l0 hs (by omega)) (refSize_eq _ l0 hs (by omega))

end Go.Proofs.Ythkooncibfkepaa.G
