/- Contracts of functions and plain laws, several texts of the session put together by its program. -/
import Derived.Test.YtppldgbgdgeegaaProg
import Derived.Below
import Derived.Deep.Draws
import Derived.Deep.AppendLies
import Derived.Maps.AppendAt
import Derived.OwnWalk
import Derived.Laws.BytesArg
import Derived.Laws.MakeOwn
import Derived.Laws.OwnMore
import Derived.Deep.OwnRows
import Derived.Tactics
import Derived.Lib.ConvBytes
import Derived.Laws.Slices
import Derived.WalkKit
import Derived.KernelRfl
import Derived.RowKit3
import Derived.Deep.LoopGhost
import Derived.Deep.QuietTactic
import Derived.BigQuiet
import Derived.WideLaws
import Derived.Deep.DeepCutAuto
import Derived.Deep.CutBlock
import Derived.Deep.RegionHeld3
import Derived.Laws.Rows
import Derived.Lib.AppendStr
import Derived.ArgAppend
import Derived.Laws.IdiomCopy
import Derived.OrdersHeld
import Derived.Laws.BitsLemmas
import Derived.RowKit
import Derived.Test.YtppldgbgdgeegaaWWords
import Derived.Test.YtppldgbgdgeegaaWLast
import Derived.Test.YtppldgbgdgeegaaWTab
import Derived.Test.YtppldgbgdgeegaaWFour
import Derived.Test.YtppldgbgdgeegaaWQPut
import Derived.Test.YtppldgbgdgeegaaWApart
import Derived.Test.YtppldgbgdgeegaaWArr
import Derived.Test.YtppldgbgdgeegaaWZeros
import Derived.Test.YtppldgbgdgeegaaWFoot
import Derived.Test.YtppldgbgdgeegaaWKept
import Derived.Test.YtppldgbgdgeegaaWShare
import Derived.Test.YtppldgbgdgeegaaWN
import Derived.Test.YtppldgbgdgeegaaWFootNe
import Derived.Test.YtppldgbgdgeegaaWAt
import Derived.Test.YtppldgbgdgeegaaWEqStruct
import Derived.Test.YtppldgbgdgeegaaWRepsOne
import Derived.Test.YtppldgbgdgeegaaWInv
import Derived.Test.YtppldgbgdgeegaaWInvWords
import Derived.Test.YtppldgbgdgeegaaWGuard
import Derived.Test.YtppldgbgdgeegaaWNEv
import Derived.Test.YtppldgbgdgeegaaWMore
import Derived.Test.YtppldgbgdgeegaaQ3
import Derived.Carry
import Derived.Test.YtppldgbgdgeegaaQ2

/- Contracts typed by hand: apart: no place goes twice, no number comes twice -/
namespace Go.Proofs.Ytppldgbgdgeegaa.G
open Go.RowKit Go.Proofs.YtppldgbgdgeegaaW.PrintWords Go.Proofs.YtppldgbgdgeegaaW.PrintLast Go.Proofs.YtppldgbgdgeegaaW.PrintMore
attribute [local go_sem] max2_int min2_int max_two min_two max_three min_three max_four min_four
set_option linter.unusedVariables false
set_option linter.unusedSimpArgs false

/-! apart: no place goes twice, no number comes twice -/
open Go.WideMaps Go.WideElems
attribute [local go_sem high] eqA45
theorem info3a : (Try.prog.info? 3).map (fun i => (i.zero, i.size, i.bytes)) = some (some (.int .i64 0), 1, 8) := by kernel_rfl
abbrev E15 := Int × Int × Int × List S45 × List S43
def kE : Kd E15 := Kd.pair (Kd.int .i64) (Kd.pair (Kd.int .i64) (Kd.pair (Kd.int .u64) (Kd.pair (Kd.slice 45 k45) (Kd.slice 43 k43))))
def zE15 : E15 := (0, 0, 0, [], [])
def numC (c : S43) : Int := c.f1.f0
def goneL (L : List E15) : List S45 := L.flatMap fun e => e.2.2.2.1
def comeL (L : List E15) : List Int := L.flatMap fun e => e.2.2.2.2.map numC
theorem at_E15 {w : World} {A : Option Addr} {L : List E15} (h : Kd.C kE w A L.length L) (i : Nat) (hi : i < L.length) : ∃ ad A3 c3 A4 c4, A = some ad ∧ w.cell? (ad.add (i * 5)) = some (.int .i64 L[i].1) ∧ w.cell? ⟨(ad.add (i * 5)).block, (ad.add (i * 5)).off + 1, none⟩ = some (.int .i64 L[i].2.1) ∧ w.cell? ⟨(ad.add (i * 5)).block, (ad.add (i * 5)).off + 2, none⟩ = some (.int .u64 L[i].2.2.1) ∧ w.cell? ⟨(ad.add (i * 5)).block, (ad.add (i * 5)).off + 3, none⟩ = some (.slice A3 L[i].2.2.2.1.length c3) ∧ w.cell? ⟨(ad.add (i * 5)).block, (ad.add (i * 5)).off + 4, none⟩ = some (.slice A4 L[i].2.2.2.2.length c4) ∧ Kd.C k45 w A3 L[i].2.2.2.1.length L[i].2.2.2.1 ∧ Kd.C k43 w A4 L[i].2.2.2.2.length L[i].2.2.2.2 := by
  obtain ⟨ad, c, e, _, hK, hc0⟩ := Kd.C_get h zE15 (i : Int) (by omega) (by omega)
  have hg : L.getD ((i : Int)).toNat zE15 = L[i] := by simp [hi]
  rw [hg] at hK
  obtain ⟨A3, c3, A4, c4, hcs, r3, l3, r4, l4⟩ := open_e15 (cs := c.toArray) (x := L[i]) hK
  have hc' : c = [.int .i64 L[i].1, .int .i64 L[i].2.1, .int .u64 L[i].2.2.1, .slice A3 L[i].2.2.2.1.length c3, .slice A4 L[i].2.2.2.2.length c4] := by
    have := congrArg Array.toList hcs
    exact this
  subst hc'
  have hc : ∀ j u, [Value.int .i64 L[i].1, .int .i64 L[i].2.1, .int .u64 L[i].2.2.1, .slice A3 L[i].2.2.2.1.length c3, .slice A4 L[i].2.2.2.2.length c4][j]? = some u → w.cell? (ad.add (i * 5 + j)) = some u := hc0
  exact ⟨ad, A3, c3, A4, c4, e, hc 0 _ rfl, by rw [← add_field _ _ 1 (by omega)]; exact hc 1 _ rfl, by rw [← add_field _ _ 2 (by omega)]; exact hc 2 _ rfl, by rw [← add_field _ _ 3 (by omega)]; exact hc 3 _ rfl, by rw [← add_field _ _ 4 (by omega)]; exact hc 4 _ rfl, r3, r4⟩
theorem goneL_len : ∀ L : List E15, (∀ e ∈ L, e.2.2.2.1.length ≤ 1048576) → (goneL L).length ≤ L.length * 1048576
  | [], _ => Nat.zero_le _
  | e :: L, h => by
    have h1 := goneL_len L (fun x hx => h x (List.mem_cons_of_mem _ hx))
    have h2 := h e (List.mem_cons_self ..)
    unfold goneL at h1 ⊢
    rw [List.flatMap_cons, List.length_append, List.length_cons]
    omega
theorem comeL_len : ∀ L : List E15, (∀ e ∈ L, e.2.2.2.2.length ≤ 1048576) → (comeL L).length ≤ L.length * 1048576
  | [], _ => Nat.zero_le _
  | e :: L, h => by
    have h1 := comeL_len L (fun x hx => h x (List.mem_cons_of_mem _ hx))
    have h2 := h e (List.mem_cons_self ..)
    unfold comeL at h1 ⊢
    rw [List.flatMap_cons, List.length_append, List.length_cons, List.length_map]
    omega
theorem goneL_snoc (L : List E15) (i : Nat) (h : i < L.length) : goneL (L.take (i + 1)) = goneL (L.take i) ++ L[i].2.2.2.1 := by
  unfold goneL
  rw [List.take_add_one, List.getElem?_eq_getElem h, List.flatMap_append]
  simp
theorem comeL_snoc (L : List E15) (i : Nat) (h : i < L.length) : comeL (L.take (i + 1)) = comeL (L.take i) ++ L[i].2.2.2.2.map numC := by
  unfold comeL
  rw [List.take_add_one, List.getElem?_eq_getElem h, List.flatMap_append]
  simp
theorem nodup_snoc {α : Type} [DecidableEq α] {l : List α} {x : α} (h : l.Nodup) (hx : x ∉ l) : (l ++ [x]).Nodup := by
  rw [List.nodup_append]
  refine ⟨h, List.nodup_cons.2 ⟨List.not_mem_nil, List.nodup_nil⟩, ?_⟩
  intro a ha b hb e
  rw [List.mem_singleton] at hb
  subst hb
  subst e
  exact hx ha
theorem take_snoc {α : Type} {l : List α} {k : Nat} (h : k < l.length) : l.take (k + 1) = l.take k ++ [l[k]] := by
  rw [List.take_add_one, List.getElem?_eq_getElem h]
  rfl
/-- what apart's answer tells -/
def ApPost (L : List E15) (w : World) (e : Ending) (w' : World) : Prop := ∃ r, e = .returned (.bool r) ∧ (r = true → ((goneL L).map plG).Nodup ∧ (comeL L).Nodup) ∧ Below w.heap.size w w'
set_option maxHeartbeats 64000000 in
set_option maxRecDepth 100000 in
theorem apart_calls (A : Option Addr) (c : Nat) (L : List E15) (w : World) (hr : Kd.C kE w A L.length L) (hN : L.length ≤ 3) (hl1 : ∀ e ∈ L, e.2.2.2.1.length ≤ 1048576) (hl2 : ∀ e ∈ L, e.2.2.2.2.length ≤ 1048576) :
    Calls Try.prog 13 #[.slice A L.length c] w (ApPost L w) := by
  have HR := Aside0.mk hr
  have HGL := Aside0.mk (fun (i : Nat) (hi : i ≤ 3) => show (goneL (L.take i)).length ≤ 3145728 by
    have h := goneL_len (L.take i) (fun e he => hl1 e (List.mem_of_mem_take he))
    have h2 : (L.take i).length ≤ i := by rw [List.length_take]; omega
    omega)
  have HCL := Aside0.mk (fun (i : Nat) (hi : i ≤ 3) => show (comeL (L.take i)).length ≤ 3145728 by
    have h := comeL_len (L.take i) (fun e he => hl2 e (List.mem_of_mem_take he))
    have h2 : (L.take i).length ≤ i := by rw [List.length_take]; omega
    omega)
  have HL1 := Aside0.mk hl1
  have HL2 := Aside0.mk hl2
  obtain ⟨n, hn⟩ : ∃ n, L.length = n := ⟨_, rfl⟩
  have HN := Aside0.mk hn
  rw [hn] at hN ⊢
  clear hr hl1 hl2 hn
  go_enter Try.func13, Try.ntmps13
  go_wp2_with fail
  go_loopg [3, 4, 17] (1 + n) (fun kq v3 v4 v17 wr => ∃ (i : Nat) (Ag : Option Addr) (ng cg : Nat) (Ac : Option Addr) (nc cc : Nat), v3 = .slice Ag ng cg ∧ v4 = .slice Ac nc cc ∧ v17 = .int .i64 (i : Int) ∧ i ≤ n ∧ n - i < kq ∧ Aside0 (Kd.R k45 45 wr w.heap.size (fun _ => True) (.slice Ag ng cg) (goneL (L.take i))) ∧ Aside0 (Kd.R (Kd.int .i64) 3 wr w.heap.size (fun _ => True) (.slice Ac nc cc) (comeL (L.take i))) ∧ Aside0 (((goneL (L.take i)).map plG).Nodup) ∧ Aside0 ((comeL (L.take i)).Nodup) ∧ Aside0 (Below w.heap.size w wr))
  case atStart => exact ⟨0, none, 0, 0, none, 0, 0, rfl, rfl, rfl, Nat.zero_le _, by omega, ⟨Kd.R_nil _ _ _ _ _⟩, ⟨Kd.R_nil _ _ _ _ _⟩, ⟨List.nodup_nil⟩, ⟨List.nodup_nil⟩, ⟨Below.refl _ _⟩⟩
  case round =>
    obtain ⟨i, Ag, ng, cg, Ac, nc, cc, rfl, rfl, rfl, hin, hkq, HG, HC, HNG, HNC, HB⟩ := hrel
    cases gk with
    | zero => omega
    | succ gk1 =>
    by_cases hi : i < n
    · have b1 : decide ((i : Int) < (n : Int)) = true := decide_eq_true (by omega)
      have b1n : decide (i < n) = true := decide_eq_true hi
      have hio : i < L.length := by rw [HN.out]; exact hi
      obtain ⟨ad, A3, c3, A4, c4, hA, f0, f1, f2, f3, f4, r3, r4⟩ := at_E15 HR.out i hio
      subst hA
      have hgs := goneL_snoc L i hio
      have hcs := comeL_snoc L i hio
      have hb1 := HL1.out L[i] (List.getElem_mem hio)
      have hb2 := HL2.out L[i] (List.getElem_mem hio)
      obtain ⟨x, hx⟩ : ∃ x, L[i] = x := ⟨_, rfl⟩
      rw [hx] at f0 f1 f2 f3 f4 r3 r4 hgs hcs hb1 hb2
      obtain ⟨e0, e1, e2, G, C⟩ := x
      simp only [] at f0 f1 f2 f3 f4 r3 r4 hgs hcs hb1 hb2
      have HGS := Aside0.mk hgs
      have HCS := Aside0.mk hcs
      have R3 := Aside0.mk r3
      have R4 := Aside0.mk r4
      obtain ⟨mg, hmg⟩ : ∃ m, G.length = m := ⟨_, rfl⟩
      obtain ⟨mc, hmc⟩ : ∃ m, C.length = m := ⟨_, rfl⟩
      rw [hmg] at f3 hb1
      rw [hmc] at f4 hb2
      have HMG := Aside0.mk hmg
      have HMC := Aside0.mk hmc
      have hb := HB.out
      have g0 := (hb.cell (World.block_lt_of_cell? w _ f0)).trans f0
      have g1 := (hb.cell (World.block_lt_of_cell? w _ f1)).trans f1
      have g2 := (hb.cell (World.block_lt_of_cell? w _ f2)).trans f2
      have g3 := (hb.cell (World.block_lt_of_cell? w _ f3)).trans f3
      have g4 := (hb.cell (World.block_lt_of_cell? w _ f4)).trans f4
      have KB := Aside0.mk (blk_new wr (.cells (cE e0 e1 e2 (.slice A3 mg c3) (.slice A4 mc c4)) 31))
      have j0 := blk_cell KB.out 0
      have j1 := blk_cell KB.out 1
      have j2 := blk_cell KB.out 2
      have j3 := blk_cell KB.out 3
      have j4 := blk_cell KB.out 4
      clear hio hgs hcs hx f0 f1 f2 f3 f4 r3 r4 hmg hmc hb
      go_wp2_with fail
      clear j0 j1 j2 j3 j4 g0 g1 g2 g3 g4
      have HG := Aside0.mk (Kd.R_below HG.out (below_alloc (Below.refl _ _) (.cells (cE e0 e1 e2 (.slice A3 mg c3) (.slice A4 mc c4)) 31)))
      have HC := Aside0.mk (Kd.R_below HC.out (below_alloc (Below.refl _ _) (.cells (cE e0 e1 e2 (.slice A3 mg c3) (.slice A4 mc c4)) 31)))
      have HB := Aside0.mk (below_alloc HB.out (.cells (cE e0 e1 e2 (.slice A3 mg c3) (.slice A4 mc c4)) 31))
      generalize wr.alloc (.cells (cE e0 e1 e2 (.slice A3 mg c3) (.slice A4 mc c4)) 31) = wb at KB HG HC HB ⊢
      generalize wr.heap.size = b6 at KB ⊢
      go_loopg [3, 24] (1 + mg) (fun kq v3 v24 wr => ∃ (j : Nat) (Ag : Option Addr) (ng cg : Nat), v3 = .slice Ag ng cg ∧ v24 = .int .i64 (j : Int) ∧ j ≤ mg ∧ mg - j < kq ∧ Aside0 (Kd.R k45 45 wr w.heap.size (fun _ => True) (.slice Ag ng cg) (goneL (L.take i) ++ G.take j)) ∧ Aside0 (Kd.R (Kd.int .i64) 3 wr w.heap.size (fun _ => True) (.slice Ac nc cc) (comeL (L.take i))) ∧ Aside0 (((goneL (L.take i) ++ G.take j).map plG).Nodup) ∧ Aside0 (wr.heap[b6]? = some (.cells (cE e0 e1 e2 (.slice A3 mg c3) (.slice A4 mc c4)) 31 (0, 0))) ∧ Aside0 (Below w.heap.size w wr))
      case atStart => exact ⟨0, Ag, ng, cg, rfl, rfl, Nat.zero_le _, by omega, ⟨by rw [List.take_zero, List.append_nil]; exact HG.out⟩, HC, ⟨by rw [List.take_zero, List.append_nil]; exact HNG.out⟩, KB, HB⟩
      case round =>
        clear HG HC HNG KB HB
        rename_i gk1o _ _ _ _ _
        obtain ⟨j, Ag, ng, cg, rfl, rfl, hjn, hkj, HG, HC, HNG, KB, HB⟩ := hrel
        cases gk with
        | zero => omega
        | succ gk2 =>
        by_cases hj : j < mg
        · have b2 : decide ((j : Int) < (mg : Int)) = true := decide_eq_true (by omega)
          have b2n : decide (j < mg) = true := decide_eq_true hj
          have hjo : j < G.length := by rw [HMG.out]; exact hj
          obtain ⟨ad3, hA3, f0, f1⟩ := at_T45 R3.out (j : Int) (by omega) (by omega)
          subst hA3
          have hrd : rd_T45 G (j : Int) = G[j] := rd45_at hjo
          rw [hrd, Int.toNat_natCast] at f0 f1
          have htk := take_snoc hjo
          obtain ⟨x, hx⟩ : ∃ x, G[j] = x := ⟨_, rfl⟩
          rw [hx] at f0 f1 htk
          obtain ⟨p0, p1⟩ := x
          simp only [] at f0 f1
          have HTK := Aside0.mk (show goneL (L.take i) ++ G.take (j + 1) = (goneL (L.take i) ++ G.take j) ++ [⟨p0, p1⟩] by rw [htk, List.append_assoc])
          have hga : (goneL (L.take i) ++ G.take j).length ≤ 4194304 := by
            have h1 := HGL.out i (by omega)
            have h2 : (G.take j).length ≤ j := by rw [List.length_take]; omega
            rw [List.length_append]
            omega
          have HGA := Aside0.mk hga
          generalize goneL (L.take i) ++ G.take j = ga at HG HNG HTK HGA
          have HGN := Aside0.mk (Kd.R_reads' HG.out).1
          have hngb : ng ≤ 4194304 := by have h1 := HGN.out; have h2 := HGA.out; omega
          have hb := HB.out
          have g0 := (hb.cell (World.block_lt_of_cell? w _ f0)).trans f0
          have g1 := (hb.cell (World.block_lt_of_cell? w _ f1)).trans f1
          have K8 := Aside0.mk (blk_new wr (.cells #[.int .i64 p0, .int .i64 p1] 45))
          clear hjo hrd htk hx f0 f1 hb hga
          go_wp2_with fail
          clear g0 g1
          have HG := Aside0.mk (Kd.R_below HG.out (below_alloc (Below.refl _ _) (.cells #[.int .i64 p0, .int .i64 p1] 45)))
          have HC := Aside0.mk (Kd.R_below HC.out (below_alloc (Below.refl _ _) (.cells #[.int .i64 p0, .int .i64 p1] 45)))
          have KB := Aside0.mk (blk_below KB.out (below_alloc (Below.refl _ _) (.cells #[.int .i64 p0, .int .i64 p1] 45)))
          have HB := Aside0.mk (below_alloc HB.out (.cells #[.int .i64 p0, .int .i64 p1] 45))
          generalize wr.alloc (.cells #[.int .i64 p0, .int .i64 p1] 45) = wp at K8 KB HG HC HB ⊢
          generalize wr.heap.size = b8 at K8 ⊢
          go_loopg [30] (1 + ng) (fun kq v30 wr => ∃ k : Nat, v30 = .int .i64 (k : Int) ∧ k ≤ ng ∧ ng - k < kq ∧ Aside0 ((p0, p1) ∉ (ga.take k).map plG) ∧ Aside0 (Below wp.heap.size wp wr))
          case atStart => exact ⟨0, rfl, Nat.zero_le _, by omega, ⟨by simp⟩, ⟨Below.refl _ _⟩⟩
          case round =>
            obtain ⟨k, rfl, hkn, hkk, HNI, HBK⟩ := hrel
            cases gk with
            | zero => omega
            | succ gk3 =>
            by_cases hk : k < ng
            · have b3 : decide ((k : Int) < (ng : Int)) = true := decide_eq_true (by omega)
              have b3n : decide (k < ng) = true := decide_eq_true hk
              have hko : k < ga.length := by have := HGN.out; omega
              obtain ⟨ad4, hA4, f0, f1⟩ := at_T45 (Kd.R_reads' HG.out).2.2 (k : Int) (by omega) (by omega)
              subst hA4
              have hrd : rd_T45 ga (k : Int) = ga[k] := rd45_at hko
              rw [hrd, Int.toNat_natCast] at f0 f1
              have htk := take_snoc hko
              obtain ⟨x, hx⟩ : ∃ x, ga[k] = x := ⟨_, rfl⟩
              rw [hx] at f0 f1 htk
              obtain ⟨q0, q1⟩ := x
              simp only [] at f0 f1
              have HT2 := Aside0.mk htk
              have hb := HBK.out
              have g0 := (hb.cell (World.block_lt_of_cell? wp _ f0)).trans f0
              have g1 := (hb.cell (World.block_lt_of_cell? wp _ f1)).trans f1
              have K8k := Aside0.mk (blk_below K8.out hb)
              have K8a := Aside0.mk (blk_below K8k.out (below_alloc (Below.refl _ _) (.cells #[.int .i64 q0, .int .i64 q1] 45)))
              have K10 := Aside0.mk (blk_new wr (.cells #[.int .i64 q0, .int .i64 q1] 45))
              have t0 := blk_cell K8k.out 0
              have t1 := blk_cell K8k.out 1
              have t2 := blk_cell K8a.out 0
              have t3 := blk_cell K8a.out 1
              have t4 := blk_cell K10.out 0
              have t5 := blk_cell K10.out 1
              have HBA := Aside0.mk (below_alloc hb (.cells #[.int .i64 q0, .int .i64 q1] 45))
              clear hko hrd htk hx f0 f1 hb
              by_cases h0 : p0 = q0
              · by_cases h1 : p1 = q1
                · have d1 : (p0 == q0) = true := by simp [h0]
                  have d2 : (p1 == q1) = true := by simp [h1]
                  clear h0 h1
                  go_wp2
                  go_ret
                  exact ⟨false, rfl, (fun h => by cases h), below_step HB.out HBA.out⟩
                · have d1 : (p0 == q0) = true := by simp [h0]
                  have d2 : (p1 == q1) = false := by simp [h1]
                  have HNI2 := Aside0.mk (show (p0, p1) ∉ (ga.take (k + 1)).map plG by
                    rw [HT2.out, List.map_append, List.mem_append]
                    exact fun h => h.elim HNI.out (fun h => h1 (by simp [plG] at h; exact h.2)))
                  clear h0 h1
                  go_wp2
                  go_roundg gk3
                  case measure => omega
                  case rel => exact ⟨k + 1, by go_num, by omega, by omega, HNI2, HBA⟩
              · have d1 : (p0 == q0) = false := by simp [h0]
                have HNI2 := Aside0.mk (show (p0, p1) ∉ (ga.take (k + 1)).map plG by
                  rw [HT2.out, List.map_append, List.mem_append]
                  exact fun h => h.elim HNI.out (fun h => h0 (by simp [plG] at h; exact h.1)))
                clear h0
                go_wp2
                go_roundg gk3
                case measure => omega
                case rel => exact ⟨k + 1, by go_num, by omega, by omega, HNI2, HBA⟩
            · obtain rfl : ng = k := by omega
              have b3 : decide ((ng : Int) < (ng : Int)) = false := decide_eq_false (by omega)
              have b3n : decide (ng < ng) = false := decide_eq_false (by omega)
              have HNA := Aside0.mk (show (p0, p1) ∉ ga.map plG by have h := HNI.out; rwa [List.take_of_length_le (by have := HGN.out; omega)] at h)
              have HG := Aside0.mk (Kd.R_below HG.out HBK.out)
              have HC := Aside0.mk (Kd.R_below HC.out HBK.out)
              have KB := Aside0.mk (blk_below KB.out HBK.out)
              have K8 := Aside0.mk (blk_below K8.out HBK.out)
              have HB := Aside0.mk (below_step HB.out HBK.out)
              have t0 := blk_cell K8.out 0
              have t1 := blk_cell K8.out 1
              clear HNI HBK hkk
              go_wp2_with (first | ((with_reducible refine gate_builtin (b := .append) (xs := #[.tmp 38, .tmp 40]) rfl ?_); at_builtin; refine Kd.R_append k45 (w0 := w) w.heap.size rfl (.tmp 38) (.tmp 40) 28 45 (.agg #[(.int .i64 0), (.int .i64 0)]) 16 rfl Try.underlying28 info45 rfl (by decide) (by omega) (.slice Ag ng cg) ga (⟨p0, p1⟩ : S45) [.int .i64 p0, .int .i64 p1] (fun _ => True) (fun _ => False) rfl (by first | (go_simp; done) | (go_simp; rfl)) ?aP (fun _ hk => hk.elim) ?aF ?aO ?aB ?aS ?aL ?_; (case aP => exact k45_mkM _ _ _ (⟨p0, p1⟩ : S45)); (case aB => exact HB.out); (case aF => exact (fun _ _ => trivial)); (case aO => exact HG.out); (case aS => exact HB.out.size); (case aL => have := HGA.out; omega); intro v9 w9 ho hb hg hat; obtain ⟨Ag9, cg9, rfl, _, _⟩ := Kd.R_reads ho; obtain ⟨n9, hn9⟩ : ∃ n, (ga ++ [(⟨p0, p1⟩ : S45)]).length = n := ⟨_, rfl⟩; rw [hn9] at ho ⊢; have HO9 := Aside0.mk ho; have HB9 := Aside0.mk hb; have HC9 := Aside0.mk (Kd.R_over HC.out HG.out (by decide) hg); have KB9 := Aside0.mk ((hg.block _ (blk_lt KB.out) (Kd.R_ne HG.out KB.out (by decide))).trans KB.out); clear ho hb hg hat hn9))
              go_roundg gk2
              case measure => omega
              case rel => exact ⟨j + 1, Ag9, n9, cg9, rfl, by go_num, by omega, by omega, ⟨by rw [HTK.out]; exact HO9.out⟩, HC9, ⟨by rw [HTK.out, List.map_append]; exact nodup_snoc HNG.out HNA.out⟩, KB9, HB9⟩
        · obtain rfl : mg = j := by omega
          have b2 : decide ((mg : Int) < (mg : Int)) = false := decide_eq_false (by omega)
          have b2n : decide (mg < mg) = false := decide_eq_false (by omega)
          have HEG := Aside0.mk (show goneL (L.take i) ++ G.take mg = goneL (L.take (i + 1)) by rw [HGS.out, show G.take mg = G from List.take_of_length_le (by have := HMG.out; omega)])
          have HG := Aside0.mk (show Kd.R k45 45 wr w.heap.size (fun _ => True) (.slice Ag ng cg) (goneL (L.take (i + 1))) by rw [← HEG.out]; exact HG.out)
          have HNG := Aside0.mk (show ((goneL (L.take (i + 1))).map plG).Nodup by rw [← HEG.out]; exact HNG.out)
          have j4 := blk_cell KB.out 4
          clear HEG hkj
          go_wp2_with fail
          clear j4 KB
          go_loopg [4, 46] (1 + mc) (fun kq v4 v46 wr => ∃ (j : Nat) (Ac : Option Addr) (nc cc : Nat), v4 = .slice Ac nc cc ∧ v46 = .int .i64 (j : Int) ∧ j ≤ mc ∧ mc - j < kq ∧ Aside0 (Kd.R k45 45 wr w.heap.size (fun _ => True) (.slice Ag ng cg) (goneL (L.take (i + 1)))) ∧ Aside0 (Kd.R (Kd.int .i64) 3 wr w.heap.size (fun _ => True) (.slice Ac nc cc) (comeL (L.take i) ++ (C.take j).map numC)) ∧ Aside0 ((comeL (L.take i) ++ (C.take j).map numC).Nodup) ∧ Aside0 (Below w.heap.size w wr))
          case atStart => exact ⟨0, Ac, nc, cc, rfl, rfl, Nat.zero_le _, by omega, HG, ⟨by rw [List.take_zero, List.map_nil, List.append_nil]; exact HC.out⟩, ⟨by rw [List.take_zero, List.map_nil, List.append_nil]; exact HNC.out⟩, HB⟩
          case round =>
            clear HG HC HB
            obtain ⟨j, Ac, nc, cc, rfl, rfl, hjn, hkj, HG, HC, HNC, HB⟩ := hrel
            cases gk with
            | zero => omega
            | succ gk2 =>
            by_cases hj : j < mc
            · have b4 : decide ((j : Int) < (mc : Int)) = true := decide_eq_true (by omega)
              have b4n : decide (j < mc) = true := decide_eq_true hj
              have hjo : j < C.length := by rw [HMC.out]; exact hj
              obtain ⟨ad3, hA3, f0, f1, f2, f3, f4, f5, f6⟩ := at_T43 R4.out (j : Int) (by omega) (by omega)
              subst hA3
              have hrd : rd_T43 C (j : Int) = C[j] := rd43_at hjo
              rw [hrd, Int.toNat_natCast] at f0 f1 f2 f3 f4 f5 f6
              have htk := take_snoc hjo
              obtain ⟨x, hx⟩ : ∃ x, C[j] = x := ⟨_, rfl⟩
              rw [hx] at f0 f1 f2 f3 f4 f5 f6 htk
              obtain ⟨xl, xn, xs, xa, xb, xc, xd⟩ := x
              simp only [] at f0 f1 f2 f3 f4 f5 f6
              have HTK := Aside0.mk (show comeL (L.take i) ++ (C.take (j + 1)).map numC = (comeL (L.take i) ++ (C.take j).map numC) ++ [xn] by rw [htk, List.map_append, List.append_assoc]; rfl)
              have hga : (comeL (L.take i) ++ (C.take j).map numC).length ≤ 4194304 := by
                have h1 := HCL.out i (by omega)
                have h2 : (C.take j).length ≤ j := by rw [List.length_take]; omega
                rw [List.length_append, List.length_map]
                omega
              have HGA := Aside0.mk hga
              generalize comeL (L.take i) ++ (C.take j).map numC = ga at HC HNC HTK HGA
              have HGN := Aside0.mk (Kd.R_reads' HC.out).1
              have hngb : nc ≤ 4194304 := by have h1 := HGN.out; have h2 := HGA.out; omega
              have hb := HB.out
              have g0 := (hb.cell (World.block_lt_of_cell? w _ f0)).trans f0
              have g1 := (hb.cell (World.block_lt_of_cell? w _ f1)).trans f1
              have g2 := (hb.cell (World.block_lt_of_cell? w _ f2)).trans f2
              have g3' := (hb.cell (World.block_lt_of_cell? w _ f3)).trans f3
              have g4' := (hb.cell (World.block_lt_of_cell? w _ f4)).trans f4
              have g5 := (hb.cell (World.block_lt_of_cell? w _ f5)).trans f5
              have g6 := (hb.cell (World.block_lt_of_cell? w _ f6)).trans f6
              have K12 := Aside0.mk (blk_new wr (.cells #[.int .i64 xl, .int .i64 xn, .int .i64 xs, .string xa, .string xb, .int .u64 xc, .int .u64 xd] 43))
              clear hjo hrd htk hx f0 f1 f2 f3 f4 f5 f6 hb hga
              go_wp2_with fail
              clear g0 g1 g2 g3' g4' g5 g6
              have HG := Aside0.mk (Kd.R_below HG.out (below_alloc (Below.refl _ _) (.cells #[.int .i64 xl, .int .i64 xn, .int .i64 xs, .string xa, .string xb, .int .u64 xc, .int .u64 xd] 43)))
              have HC := Aside0.mk (Kd.R_below HC.out (below_alloc (Below.refl _ _) (.cells #[.int .i64 xl, .int .i64 xn, .int .i64 xs, .string xa, .string xb, .int .u64 xc, .int .u64 xd] 43)))
              have HB := Aside0.mk (below_alloc HB.out (.cells #[.int .i64 xl, .int .i64 xn, .int .i64 xs, .string xa, .string xb, .int .u64 xc, .int .u64 xd] 43))
              generalize wr.alloc (.cells #[.int .i64 xl, .int .i64 xn, .int .i64 xs, .string xa, .string xb, .int .u64 xc, .int .u64 xd] 43) = wp at K12 HG HC HB ⊢
              generalize wr.heap.size = b12 at K12 ⊢
              go_loopg [52] (1 + nc) (fun kq v52 wr => ∃ k : Nat, v52 = .int .i64 (k : Int) ∧ k ≤ nc ∧ nc - k < kq ∧ Aside0 (xn ∉ ga.take k) ∧ Aside0 (Below wp.heap.size wp wr))
              case atStart => exact ⟨0, rfl, Nat.zero_le _, by omega, ⟨by simp⟩, ⟨Below.refl _ _⟩⟩
              case round =>
                obtain ⟨k, rfl, hkn, hkk, HNI, HBK⟩ := hrel
                cases gk with
                | zero => omega
                | succ gk3 =>
                by_cases hk : k < nc
                · have b5 : decide ((k : Int) < (nc : Int)) = true := decide_eq_true (by omega)
                  have b5n : decide (k < nc) = true := decide_eq_true hk
                  have hko : k < ga.length := by have := HGN.out; omega
                  obtain ⟨ad4, hA4, f0⟩ := Kd.at_int (Kd.R_reads' HC.out).2.2 (k : Int) (by omega) (by omega)
                  subst hA4
                  have hrd : Go.Proofs.YtppldgbgdgeegaaW.PrintWords.rd ga (k : Int) = ga[k] := by unfold Go.Proofs.YtppldgbgdgeegaaW.PrintWords.rd; simp [hko]
                  rw [hrd, Int.toNat_natCast] at f0
                  have htk := take_snoc hko
                  obtain ⟨q, hq⟩ : ∃ q, ga[k] = q := ⟨_, rfl⟩
                  rw [hq] at f0 htk
                  have HT2 := Aside0.mk htk
                  have hb := HBK.out
                  have g0 := (hb.cell (World.block_lt_of_cell? wp _ f0)).trans f0
                  have K12k := Aside0.mk (blk_below K12.out hb)
                  have t1 := blk_cell K12k.out 1
                  clear hko hrd htk hq f0 hb
                  by_cases h0 : q = xn
                  · have d1 : (q == xn) = true := by simp [h0]
                    have d2 : decide (q = xn) = true := by simp [h0]
                    clear h0
                    go_wp2
                    go_ret
                    exact ⟨false, rfl, (fun h => by cases h), below_step HB.out HBK.out⟩
                  · have d1 : (q == xn) = false := by simp [h0]
                    have d2 : decide (q = xn) = false := by simp [h0]
                    have HNI2 := Aside0.mk (show xn ∉ ga.take (k + 1) by
                      rw [HT2.out, List.mem_append]
                      exact fun h => h.elim HNI.out (fun h => h0 (List.mem_singleton.1 h).symm))
                    clear h0
                    go_wp2
                    go_roundg gk3
                    case measure => omega
                    case rel => exact ⟨k + 1, by go_num, by omega, by omega, HNI2, HBK⟩
                · obtain rfl : nc = k := by omega
                  have b5 : decide ((nc : Int) < (nc : Int)) = false := decide_eq_false (by omega)
                  have b5n : decide (nc < nc) = false := decide_eq_false (by omega)
                  have HNA := Aside0.mk (show xn ∉ ga by have h := HNI.out; rwa [List.take_of_length_le (by have := HGN.out; omega)] at h)
                  have HG := Aside0.mk (Kd.R_below HG.out HBK.out)
                  have HC := Aside0.mk (Kd.R_below HC.out HBK.out)
                  have K12 := Aside0.mk (blk_below K12.out HBK.out)
                  have HB := Aside0.mk (below_step HB.out HBK.out)
                  have t1 := blk_cell K12.out 1
                  clear HNI HBK hkk
                  go_wp2_with (first | ((with_reducible refine gate_builtin (b := .append) (xs := #[.tmp 62, .tmp 66]) rfl ?_); at_builtin; refine Kd.R_append (Kd.int .i64) (w0 := w) w.heap.size rfl (.tmp 62) (.tmp 66) 52 3 (.int .i64 0) 8 rfl Try.underlying52 info3a rfl (by decide) (by omega) (.slice Ac nc cc) ga xn [.int .i64 xn] (fun _ => True) (fun _ => False) rfl (by first | (go_simp; done) | (go_simp; rfl)) ?aP (fun _ hk => hk.elim) ?aF ?aO ?aB ?aS ?aL ?_; (case aP => exact rfl); (case aB => exact HB.out); (case aF => exact (fun _ _ => trivial)); (case aO => exact HC.out); (case aS => exact HB.out.size); (case aL => have := HGA.out; omega); intro v9 w9 ho hb hg hat; obtain ⟨Ag9, cg9, rfl, _, _⟩ := Kd.R_reads ho; obtain ⟨n9, hn9⟩ : ∃ n, (ga ++ [xn]).length = n := ⟨_, rfl⟩; rw [hn9] at ho ⊢; have HO9 := Aside0.mk ho; have HB9 := Aside0.mk hb; have HG9 := Aside0.mk (Kd.R_over HG.out HC.out (by decide) hg); clear ho hb hg hat hn9))
                  go_roundg gk2
                  case measure => omega
                  case rel => exact ⟨j + 1, Ag9, n9, cg9, rfl, by go_num, by omega, by omega, HG9, ⟨by rw [HTK.out]; exact HO9.out⟩, ⟨by rw [HTK.out]; exact nodup_snoc HNC.out HNA.out⟩, HB9⟩
            · obtain rfl : mc = j := by omega
              have b4 : decide ((mc : Int) < (mc : Int)) = false := decide_eq_false (by omega)
              have b4n : decide (mc < mc) = false := decide_eq_false (by omega)
              have HEC := Aside0.mk (show comeL (L.take i) ++ (C.take mc).map numC = comeL (L.take (i + 1)) by rw [HCS.out, show C.take mc = C from List.take_of_length_le (by have := HMC.out; omega)])
              have HC := Aside0.mk (show Kd.R (Kd.int .i64) 3 wr w.heap.size (fun _ => True) (.slice Ac nc cc) (comeL (L.take (i + 1))) by rw [← HEC.out]; exact HC.out)
              have HNC := Aside0.mk (show (comeL (L.take (i + 1))).Nodup by rw [← HEC.out]; exact HNC.out)
              clear HEC hkj
              go_wp2
              go_roundg gk1
              case measure => omega
              case rel => exact ⟨i + 1, Ag, ng, cg, Ac, nc, cc, rfl, rfl, by go_num, by omega, by omega, HG, HC, HNG, HNC, HB⟩
    · obtain rfl : n = i := by omega
      have b1 : decide ((n : Int) < (n : Int)) = false := decide_eq_false (by omega)
      have b1n : decide (n < n) = false := decide_eq_false (by omega)
      have HE := Aside0.mk (show L.take n = L from List.take_of_length_le (by have := HN.out; omega))
      clear hkq
      go_wp2
      go_ret
      exact ⟨true, rfl, (fun _ => ⟨by have h := HNG.out; rwa [HE.out] at h, by have h := HNC.out; rwa [HE.out] at h⟩), HB.out⟩

end Go.Proofs.Ytppldgbgdgeegaa.G

/- Contracts typed by hand: plain: three merges -/
namespace Go.Proofs.Ytppldgbgdgeegaa.G
open Go.RowKit Go.Proofs.YtppldgbgdgeegaaW.PrintWords Go.Proofs.YtppldgbgdgeegaaW.PrintLast Go.Proofs.YtppldgbgdgeegaaW.PrintMore
attribute [local go_sem] max2_int min2_int max_two min_two max_three min_three max_four min_four
set_option linter.unusedVariables false
set_option linter.unusedSimpArgs false

/-! plain: three merges -/
theorem mN_assoc (a b c : Int) : mN (mN a b) c = mN a (mN b c) := by
  unfold mN
  by_cases h1 : c = 0 <;> by_cases h2 : b = 0 <;> simp [h1, h2]
theorem cz (p : Int × Int) (l : List (Int × Int)) : decide (l.count p = 0) = !decide (p ∈ l) := by
  by_cases h : p ∈ l
  · have h2 : l.count p ≠ 0 := fun e => (List.count_eq_zero.1 e) h
    rw [decide_eq_false h2, decide_eq_true h]
    rfl
  · rw [decide_eq_true (List.count_eq_zero.2 h), decide_eq_false h]
    rfl
theorem mem_mC (aC bC : List S43) (bG : List S45) (p : Int × Int) : p ∈ (mC aC bC bG).map plC ↔ (p ∈ aC.map plC ∧ p ∉ bG.map plG) ∨ p ∈ bC.map plC := by
  unfold mC
  rw [List.map_append, List.mem_append]
  refine or_congr ?_ Iff.rfl
  rw [List.mem_map, List.mem_map]
  constructor
  · rintro ⟨x, hx, rfl⟩
    obtain ⟨h1, h2⟩ := List.mem_filter.1 hx
    exact ⟨⟨x, h1, rfl⟩, List.count_eq_zero.1 (of_decide_eq_true h2)⟩
  · rintro ⟨⟨x, hx, rfl⟩, h2⟩
    exact ⟨x, List.mem_filter.2 ⟨hx, decide_eq_true (List.count_eq_zero.2 h2)⟩, rfl⟩
theorem mem_mG (bG cG : List S45) (bC : List S43) (p : Int × Int) : p ∈ (mG bG bC cG).map plG ↔ p ∈ bG.map plG ∨ (p ∈ cG.map plG ∧ p ∉ bC.map plC) := by
  unfold mG
  rw [List.map_append, List.mem_append]
  refine or_congr Iff.rfl ?_
  rw [List.mem_map, List.mem_map]
  constructor
  · rintro ⟨x, hx, rfl⟩
    obtain ⟨h1, h2⟩ := List.mem_filter.1 hx
    exact ⟨⟨x, h1, rfl⟩, List.count_eq_zero.1 (of_decide_eq_true h2)⟩
  · rintro ⟨⟨x, hx, rfl⟩, h2⟩
    exact ⟨x, List.mem_filter.2 ⟨hx, decide_eq_true (List.count_eq_zero.2 h2)⟩, rfl⟩
theorem three_G (aG bG cG : List S45) (aC bC : List S43) (h : ∀ g ∈ cG, plG g ∉ bG.map plG) : mG (mG aG aC bG) (mC aC bC bG) cG = mG aG aC (mG bG bC cG) := by
  have e : (cG.filter fun g => decide (((mC aC bC bG).map plC).count (plG g) = 0)) = (cG.filter fun g => decide ((bC.map plC).count (plG g) = 0)).filter fun g => decide ((aC.map plC).count (plG g) = 0) := by
    rw [List.filter_filter]
    refine List.filter_congr fun g hg => ?_
    have hb := h g hg
    have e3 : decide (plG g ∈ (mC aC bC bG).map plC) = (decide (plG g ∈ aC.map plC) || decide (plG g ∈ bC.map plC)) := by
      rw [Bool.eq_iff_iff, Bool.or_eq_true, decide_eq_true_iff, decide_eq_true_iff, decide_eq_true_iff]
      exact (mem_mC aC bC bG (plG g)).trans (or_congr (and_iff_left hb) Iff.rfl)
    rw [cz, cz, cz, e3]
    exact Bool.not_or _ _
  unfold mG at e ⊢
  rw [e, List.filter_append, List.append_assoc]
theorem three_C (aC bC cC : List S43) (bG cG : List S45) (h : ∀ c ∈ aC, plC c ∉ bC.map plC) : mC (mC aC bC bG) cC cG = mC aC (mC bC cC cG) (mG bG bC cG) := by
  have e : (aC.filter fun c => decide (((mG bG bC cG).map plG).count (plC c) = 0)) = (aC.filter fun c => decide ((bG.map plG).count (plC c) = 0)).filter fun c => decide ((cG.map plG).count (plC c) = 0) := by
    rw [List.filter_filter]
    refine List.filter_congr fun c hc => ?_
    have hb := h c hc
    have e3 : decide (plC c ∈ (mG bG bC cG).map plG) = (decide (plC c ∈ cG.map plG) || decide (plC c ∈ bG.map plG)) := by
      rw [Bool.eq_iff_iff, Bool.or_eq_true, decide_eq_true_iff, decide_eq_true_iff, decide_eq_true_iff]
      exact (mem_mG bG cG bC (plC c)).trans ((or_congr Iff.rfl (and_iff_left hb)).trans or_comm)
    rw [cz, cz, cz, e3]
    exact Bool.not_or _ _
  unfold mC at e ⊢
  rw [e, List.filter_append, List.append_assoc]
theorem apart_G {aG bG cG : List S45} (h : ((aG ++ (bG ++ (cG ++ []))).map plG).Nodup) : ∀ g ∈ cG, plG g ∉ bG.map plG := by
  intro g hg hb
  rw [List.append_nil, List.map_append, List.map_append, List.nodup_append] at h
  have h2 := (List.nodup_append.1 h.2.1).2.2
  exact h2 _ hb _ (List.mem_map_of_mem hg) rfl
theorem apart_C {aC bC cC : List S43} (h : (aC.map numC ++ (bC.map numC ++ (cC.map numC ++ []))).Nodup) : ∀ c ∈ aC, plC c ∉ bC.map plC := by
  intro c hc hb
  obtain ⟨x, hx, he⟩ := List.mem_map.1 hb
  rw [List.append_nil, List.nodup_append] at h
  refine h.2.2 (numC c) (List.mem_map_of_mem hc) (numC x) (List.mem_append_left _ (List.mem_map_of_mem hx)) ?_
  have h3 := congrArg Prod.snd he
  exact h3.symm
theorem wf_mC {aC bC : List S43} {bG : List S45} (ha : ∀ x ∈ aC, WfP (plC x)) (hb : ∀ x ∈ bC, WfP (plC x)) : ∀ x ∈ mC aC bC bG, WfP (plC x) := by
  intro x hx
  unfold mC at hx
  rcases List.mem_append.1 hx with h | h
  · exact ha x (List.mem_filter.1 h).1
  · exact hb x h
theorem wf_mG {bG cG : List S45} {bC : List S43} (hb : ∀ x ∈ bG, WfP (plG x)) (hc : ∀ x ∈ cG, WfP (plG x)) : ∀ x ∈ mG bG bC cG, WfP (plG x) := by
  intro x hx
  unfold mG at hx
  rcases List.mem_append.1 hx with h | h
  · exact hb x h
  · exact hc x (List.mem_filter.1 h).1

end Go.Proofs.Ytppldgbgdgeegaa.G

/- Contracts typed by hand: the law EditThree -/
namespace Go.Proofs.Ytppldgbgdgeegaa.G
open Go.RowKit Go.Proofs.YtppldgbgdgeegaaW.PrintWords Go.Proofs.YtppldgbgdgeegaaW.PrintLast Go.Proofs.YtppldgbgdgeegaaW.PrintMore
attribute [local go_sem] max2_int min2_int max_two min_two max_three min_three max_four min_four
set_option linter.unusedVariables false
set_option linter.unusedSimpArgs false

/-! the law EditThree -/
open Go.WideMaps Go.WideElems
theorem mk_e15 {w : World} {a0 a1 a2 : Int} {G : List S45} {K : List S43} {A3 A4 : Option Addr} {n m c3 c4 : Nat} (hn : G.length = n) (hm : K.length = m) (h3 : Kd.C k45 w A3 n G) (l3 : n ≤ c3) (h4 : Kd.C k43 w A4 m K) (l4 : m ≤ c4) : kE.K w (a0, a1, a2, G, K) [.int .i64 a0, .int .i64 a1, .int .u64 a2, .slice A3 n c3, .slice A4 m c4] := by
  subst hn hm
  exact ⟨[_], _, rfl, rfl, [_], _, rfl, rfl, [_], _, rfl, rfl, [_], [_], rfl, ⟨A3, c3, rfl, l3, h3⟩, ⟨A4, c4, rfl, l4, h4⟩⟩
theorem row3 {W : World} {b : Nat} {x y z : E15} {f0 f1 f2 f3 f4 g0 g1 g2 g3 g4 h0 h1 h2 h3 h4 : Value} (hb : W.heap[b]? = some (.cells #[f0, f1, f2, f3, f4, g0, g1, g2, g3, g4, h0, h1, h2, h3, h4] 31 (0, 0))) (hx : kE.K W x [f0, f1, f2, f3, f4]) (hy : kE.K W y [g0, g1, g2, g3, g4]) (hz : kE.K W z [h0, h1, h2, h3, h4]) : Kd.C kE W (some ⟨b, 0, none⟩) 3 [x, y, z] := by
  refine ⟨rfl, by omega, fun _ => ⟨⟨b, 0, none⟩, rfl, ?_⟩⟩
  intro j p hj
  have key : ∀ (s : Nat) (c : List Value), c.length = 5 → (∀ i, i < 5 → c[i]? = (#[f0, f1, f2, f3, f4, g0, g1, g2, g3, g4, h0, h1, h2, h3, h4] : Array Value)[s * 5 + i]?) → ∀ i u, c[i]? = some u → W.cell? ((⟨b, 0, none⟩ : Addr).add (s * 5 + i)) = some u := by
    intro s c hl he i u hu
    have hi : i < 5 := by rw [← hl]; exact (List.getElem?_eq_some_iff.1 hu).1
    rw [he i hi] at hu
    have h := blk_cell hb (s * 5 + i)
    rw [hu] at h
    have e : (⟨b, 0, none⟩ : Addr).add (s * 5 + i) = ⟨b, s * 5 + i, none⟩ := by
      unfold Addr.add
      simp only [Nat.zero_add]
      by_cases hz : s * 5 + i = 0
      · rw [if_pos hz, hz]
      · rw [if_neg hz]
    rw [e]
    exact h
  match j, hj with
  | 0, hj => cases hj; exact ⟨_, rfl, hx, key 0 _ rfl (fun i hi => match i, hi with | 0, _ => rfl | 1, _ => rfl | 2, _ => rfl | 3, _ => rfl | 4, _ => rfl | i + 5, h => absurd h (by omega))⟩
  | 1, hj => cases hj; exact ⟨_, rfl, hy, key 1 _ rfl (fun i hi => match i, hi with | 0, _ => rfl | 1, _ => rfl | 2, _ => rfl | 3, _ => rfl | 4, _ => rfl | i + 5, h => absurd h (by omega))⟩
  | 2, hj => cases hj; exact ⟨_, rfl, hz, key 2 _ rfl (fun i hi => match i, hi with | 0, _ => rfl | 1, _ => rfl | 2, _ => rfl | 3, _ => rfl | 4, _ => rfl | i + 5, h => absurd h (by omega))⟩
  | j + 3, hj => simp at hj
set_option maxHeartbeats 64000000 in
set_option maxRecDepth 100000 in
theorem three_calls (a0 a1 a2 : Int) (A3 : Option Addr) (c3 : Nat) (aG : List S45) (A4 : Option Addr) (c4 : Nat) (aC : List S43) (b0 b1 b2 : Int) (B3 : Option Addr) (d3 : Nat) (bG : List S45) (B4 : Option Addr) (d4 : Nat) (bC : List S43) (k0 k1 k2 : Int) (C3 : Option Addr) (e3 : Nat) (cG : List S45) (C4 : Option Addr) (e4 : Nat) (cC : List S43) (n m p q u v : Nat) (hn : aG.length = n) (hm : aC.length = m) (hp : bG.length = p) (hq : bC.length = q) (hu : cG.length = u) (hv : cC.length = v) (hl : n ≤ 1048576 ∧ m ≤ 1048576 ∧ p ≤ 1048576 ∧ q ≤ 1048576 ∧ u ≤ 1048576 ∧ v ≤ 1048576)
    (hwa : ∀ x ∈ aC, WfP (plC x)) (hwb : ∀ x ∈ bG, WfP (plG x)) (hwb' : ∀ x ∈ bC, WfP (plC x)) (hwc : ∀ x ∈ cG, WfP (plG x)) (w : World) (h3 : Kd.C k45 w A3 n aG) (hc3 : n ≤ c3) (h4 : Kd.C k43 w A4 m aC) (hc4 : m ≤ c4) (g3 : Kd.C k45 w B3 p bG) (gc3 : p ≤ d3) (g4 : Kd.C k43 w B4 q bC) (gc4 : q ≤ d4) (i3 : Kd.C k45 w C3 u cG) (ic3 : u ≤ e3) (i4 : Kd.C k43 w C4 v cC) (ic4 : v ≤ e4) :
    Calls Try.prog 5 #[.agg (cE a0 a1 a2 (.slice A3 n c3) (.slice A4 m c4)), .agg (cE b0 b1 b2 (.slice B3 p d3) (.slice B4 q d4)), .agg (cE k0 k1 k2 (.slice C3 u e3) (.slice C4 v e4))] w fun e w' => e = .returned (.bool true) ∧ Below w.heap.size w w' := by
  obtain ⟨r1, hr1⟩ : ∃ r, (mG aG aC bG).length = r := ⟨_, rfl⟩
  obtain ⟨s1, hs1⟩ : ∃ r, (mC aC bC bG).length = r := ⟨_, rfl⟩
  obtain ⟨r2, hr2⟩ : ∃ r, (mG (mG aG aC bG) (mC aC bC bG) cG).length = r := ⟨_, rfl⟩
  obtain ⟨s2, hs2⟩ : ∃ r, (mC (mC aC bC bG) cC cG).length = r := ⟨_, rfl⟩
  obtain ⟨r3, hr3⟩ : ∃ r, (mG bG bC cG).length = r := ⟨_, rfl⟩
  obtain ⟨s3, hs3⟩ : ∃ r, (mC bC cC cG).length = r := ⟨_, rfl⟩
  obtain ⟨r4, hr4⟩ : ∃ r, (mG aG aC (mG bG bC cG)).length = r := ⟨_, rfl⟩
  obtain ⟨s4, hs4⟩ : ∃ r, (mC aC (mC bC cC cG) (mG bG bC cG)).length = r := ⟨_, rfl⟩
  have y1 : r1 ≤ n + p := by have := mG_len aG aC bG; omega
  have y2 : s1 ≤ m + q := by have := mC_len aC bC bG; omega
  have y3 : r3 ≤ p + u := by have := mG_len bG bC cG; omega
  have y4 : s3 ≤ q + v := by have := mC_len bC cC cG; omega
  have y5 : r2 ≤ r1 + u := by have := mG_len (mG aG aC bG) (mC aC bC bG) cG; omega
  have y6 : s2 ≤ s1 + v := by have := mC_len (mC aC bC bG) cC cG; omega
  obtain ⟨p0, hp0⟩ : ∃ X, mN a0 b0 = X := ⟨_, rfl⟩
  obtain ⟨p1, hp1⟩ : ∃ X, mN a1 b1 = X := ⟨_, rfl⟩
  obtain ⟨p2, hp2⟩ : ∃ X, mN a2 b2 = X := ⟨_, rfl⟩
  obtain ⟨q0, hq0⟩ : ∃ X, mN b0 k0 = X := ⟨_, rfl⟩
  obtain ⟨q1, hq1⟩ : ∃ X, mN b1 k1 = X := ⟨_, rfl⟩
  obtain ⟨q2, hq2⟩ : ∃ X, mN b2 k2 = X := ⟨_, rfl⟩
  obtain ⟨x0, hx0⟩ : ∃ X, mN p0 k0 = X := ⟨_, rfl⟩
  obtain ⟨x1, hx1⟩ : ∃ X, mN p1 k1 = X := ⟨_, rfl⟩
  obtain ⟨x2, hx2⟩ : ∃ X, mN p2 k2 = X := ⟨_, rfl⟩
  have hy0 : mN a0 q0 = x0 := by rw [← hq0, ← mN_assoc, hp0, hx0]
  have hy1 : mN a1 q1 = x1 := by rw [← hq1, ← mN_assoc, hp1, hx1]
  have hy2 : mN a2 q2 = x2 := by rw [← hq2, ← mN_assoc, hp2, hx2]
  have M1 := Aside0.mk (fun (W : World) (hb : Below w.heap.size w W) => merge15 a0 a1 a2 A3 c3 aG A4 c4 aC b0 b1 b2 B3 d3 bG B4 d4 bC n m p q r1 s1 hn hm hp hq hr1 hs1 (by omega) hwa hwb W (Kd.C_below h3 hb) hc3 (Kd.C_below h4 hb) hc4 (Kd.C_below g3 hb) gc3 (Kd.C_below g4 hb) gc4)
  have M2 := Aside0.mk (fun (X3 : Option Addr) (x3 : Nat) (X4 : Option Addr) (x4 : Nat) (bb : Nat) (W : World) (hx : EdR W bb (.slice X3 r1 x3) (.slice X4 s1 x4) (mG aG aC bG) (mC aC bC bG)) (hb : Below w.heap.size w W) => merge15 p0 p1 p2 X3 x3 (mG aG aC bG) X4 x4 (mC aC bC bG) k0 k1 k2 C3 e3 cG C4 e4 cC r1 s1 u v r2 s2 hr1 hs1 hu hv hr2 hs2 (by omega) (wf_mC hwa hwb') hwc W hx.c3.1 hx.c3.2 hx.c4.1 hx.c4.2 (Kd.C_below i3 hb) ic3 (Kd.C_below i4 hb) ic4)
  have M3 := Aside0.mk (fun (W : World) (hb : Below w.heap.size w W) => merge15 b0 b1 b2 B3 d3 bG B4 d4 bC k0 k1 k2 C3 e3 cG C4 e4 cC p q u v r3 s3 hp hq hu hv hr3 hs3 (by omega) hwb' hwc W (Kd.C_below g3 hb) gc3 (Kd.C_below g4 hb) gc4 (Kd.C_below i3 hb) ic3 (Kd.C_below i4 hb) ic4)
  have M4 := Aside0.mk (fun (Y3 : Option Addr) (y3 : Nat) (Y4 : Option Addr) (y4 : Nat) (bb : Nat) (W : World) (hy : EdR W bb (.slice Y3 r3 y3) (.slice Y4 s3 y4) (mG bG bC cG) (mC bC cC cG)) (hb : Below w.heap.size w W) => merge15 a0 a1 a2 A3 c3 aG A4 c4 aC q0 q1 q2 Y3 y3 (mG bG bC cG) Y4 y4 (mC bC cC cG) n m r3 s3 r4 s4 hn hm hr3 hs3 hr4 hs4 (by omega) hwa (wf_mG hwb hwc) W (Kd.C_below h3 hb) hc3 (Kd.C_below h4 hb) hc4 hy.c3.1 hy.c3.2 hy.c4.1 hy.c4.2)
  have M5 := Aside0.mk (fun (W : World) => merge15 3 0 0 none 0 [] none 0 [] 0 4 0 none 0 [] none 0 [] 0 0 0 0 0 0 rfl rfl rfl rfl rfl rfl (by omega) (fun _ h => by cases h) (fun _ h => by cases h) W (Kd.C_nil _ _) (Nat.le_refl _) (Kd.C_nil _ _) (Nat.le_refl _) (Kd.C_nil _ _) (Nat.le_refl _) (Kd.C_nil _ _) (Nat.le_refl _))
  rw [hp0, hp1, hp2] at M1
  rw [hx0, hx1, hx2] at M2
  rw [hq0, hq1, hq2] at M3
  rw [hy0, hy1, hy2] at M4
  rw [show mN 3 0 = 3 from rfl, show mN 0 4 = 4 from rfl, show mN 0 0 = 0 from rfl] at M5
  have HA := Aside0.mk (fun (W : World) (hb : Below w.heap.size w W) => show kE.K W (a0, a1, a2, aG, aC) [.int .i64 a0, .int .i64 a1, .int .u64 a2, .slice A3 n c3, .slice A4 m c4] from mk_e15 hn hm (Kd.C_below h3 hb) hc3 (Kd.C_below h4 hb) hc4)
  have HBb := Aside0.mk (fun (W : World) (hb : Below w.heap.size w W) => show kE.K W (b0, b1, b2, bG, bC) [.int .i64 b0, .int .i64 b1, .int .u64 b2, .slice B3 p d3, .slice B4 q d4] from mk_e15 hp hq (Kd.C_below g3 hb) gc3 (Kd.C_below g4 hb) gc4)
  have HCc := Aside0.mk (fun (W : World) (hb : Below w.heap.size w W) => show kE.K W (k0, k1, k2, cG, cC) [.int .i64 k0, .int .i64 k1, .int .u64 k2, .slice C3 u e3, .slice C4 v e4] from mk_e15 hu hv (Kd.C_below i3 hb) ic3 (Kd.C_below i4 hb) ic4)
  have HLEN := Aside0.mk (show (aG.length ≤ 1048576 ∧ aC.length ≤ 1048576) ∧ (bG.length ≤ 1048576 ∧ bC.length ≤ 1048576) ∧ (cG.length ≤ 1048576 ∧ cC.length ≤ 1048576) by omega)
  have HR2 := Aside0.mk (And.intro hr2 hs2)
  have HR4 := Aside0.mk (And.intro hr4 hs4)
  have HBD := Aside0.mk (show r2 ≤ 8000000 ∧ s2 ≤ 8000000 by omega)
  clear hn hm hp hq hu hv hl hwa hwb hwb' hwc h3 hc3 h4 hc4 g3 gc3 g4 gc4 i3 ic3 i4 ic4 hr1 hs1 hr2 hs2 hr3 hs3 hr4 hs4 y1 y2 y3 y4 y5 y6 hp0 hp1 hp2 hq0 hq1 hq2 hx0 hx1 hx2 hy0 hy1 hy2
  obtain ⟨W0, hW0⟩ : ∃ W0, ((w.alloc (.cells (cE a0 a1 a2 (.slice A3 n c3) (.slice A4 m c4)) 31)).alloc (.cells (cE b0 b1 b2 (.slice B3 p d3) (.slice B4 q d4)) 31)).alloc (.cells (cE k0 k1 k2 (.slice C3 u e3) (.slice C4 v e4)) 31) = W0 := ⟨_, rfl⟩
  have z2 := blk_new ((w.alloc (.cells (cE a0 a1 a2 (.slice A3 n c3) (.slice A4 m c4)) 31)).alloc (.cells (cE b0 b1 b2 (.slice B3 p d3) (.slice B4 q d4)) 31)) (.cells (cE k0 k1 k2 (.slice C3 u e3) (.slice C4 v e4)) 31)
  have z1 := blk_new (w.alloc (.cells (cE a0 a1 a2 (.slice A3 n c3) (.slice A4 m c4)) 31)) (.cells (cE b0 b1 b2 (.slice B3 p d3) (.slice B4 q d4)) 31)
  have z0 := blk_new w (.cells (cE a0 a1 a2 (.slice A3 n c3) (.slice A4 m c4)) 31)
  rw [World.size_alloc, World.size_alloc, hW0] at z2
  rw [World.size_alloc] at z1
  have z1' : W0.heap[w.heap.size + 1]? = some (.cells (cE b0 b1 b2 (.slice B3 p d3) (.slice B4 q d4)) 31 (0, 0)) := by rw [← hW0]; exact (Below.heap_alloc _ _ _ (by rw [World.size_alloc, World.size_alloc]; omega)).trans z1
  have z0' : W0.heap[w.heap.size]? = some (.cells (cE a0 a1 a2 (.slice A3 n c3) (.slice A4 m c4)) 31 (0, 0)) := by rw [← hW0]; exact (Below.heap_alloc _ _ _ (by rw [World.size_alloc, World.size_alloc]; omega)).trans ((Below.heap_alloc _ _ _ (by rw [World.size_alloc]; omega)).trans z0)
  have HB := Aside0.mk (show Below w.heap.size w W0 by rw [← hW0]; exact below_alloc (below_alloc (below_alloc (Below.refl _ _) _) _) _)
  have KA := Aside0.mk z0'
  have KB := Aside0.mk z1'
  have KC := Aside0.mk z2
  have HW := Aside0.mk hW0
  clear z0 z1 z2 z0' z1' hW0
  have cA0 := blk_cell KA.out 0
  have cA1 := blk_cell KA.out 1
  have cA2 := blk_cell KA.out 2
  have cA3 := blk_cell KA.out 3
  have cA4 := blk_cell KA.out 4
  have cB0 := blk_cell KB.out 0
  have cB1 := blk_cell KB.out 1
  have cB2 := blk_cell KB.out 2
  have cB3 := blk_cell KB.out 3
  have cB4 := blk_cell KB.out 4
  have cC0 := blk_cell KC.out 0
  have cC1 := blk_cell KC.out 1
  have cC2 := blk_cell KC.out 2
  have cC3 := blk_cell KC.out 3
  have cC4 := blk_cell KC.out 4
  go_enter Try.func5, Try.ntmps5
  go_wp2_with fail
  rw [HW.out]
  clear HW
  refine start_ (n := 7) (S := fun w' => w'.cell? ⟨w.heap.size, 0, none⟩ = some (.int .i64 a0) ∧ w'.cell? ⟨w.heap.size, 1, none⟩ = some (.int .i64 a1) ∧ w'.cell? ⟨w.heap.size, 2, none⟩ = some (.int .u64 a2) ∧ w'.cell? ⟨w.heap.size, 3, none⟩ = some (.slice A3 n c3) ∧ w'.cell? ⟨w.heap.size, 4, none⟩ = some (.slice A4 m c4) ∧ w'.cell? ⟨w.heap.size + 1, 0, none⟩ = some (.int .i64 b0) ∧ w'.cell? ⟨w.heap.size + 1, 1, none⟩ = some (.int .i64 b1) ∧ w'.cell? ⟨w.heap.size + 1, 2, none⟩ = some (.int .u64 b2) ∧ w'.cell? ⟨w.heap.size + 1, 3, none⟩ = some (.slice B3 p d3) ∧ w'.cell? ⟨w.heap.size + 1, 4, none⟩ = some (.slice B4 q d4) ∧ w'.cell? ⟨w.heap.size + 1 + 1, 0, none⟩ = some (.int .i64 k0) ∧ w'.cell? ⟨w.heap.size + 1 + 1, 1, none⟩ = some (.int .i64 k1) ∧ w'.cell? ⟨w.heap.size + 1 + 1, 2, none⟩ = some (.int .u64 k2) ∧ w'.cell? ⟨w.heap.size + 1 + 1, 3, none⟩ = some (.slice C3 u e3) ∧ w'.cell? ⟨w.heap.size + 1 + 1, 4, none⟩ = some (.slice C4 v e4)) (ds := [6]) #[false, false, false, false, false, false, false] (by kernel_rfl) rfl rfl ⟨cA0, cA1, cA2, cA3, cA4, cB0, cB1, cB2, cB3, cB4, cC0, cC1, cC2, cC3, cC4⟩ (fun hHeld => ?_)
  refine take_ (i := 0) (N := some 10) (v := ?_) (a' := ?_) #[true, false, false, false, false, false, false] rfl rfl (by kernel_rfl) (fun _ _ _ h => h) (Or.inl ⟨by rfl, ?_⟩) hHeld ?_ ?_
  rotate_left
  · rintro w' ⟨s0, s1, s2, s3, s4, s5, s6, s7, s8, s9, s10, s11, s12, s13, s14⟩
    go_simp
    with_reducible rfl
  rotate_left
  · simp only [Act.put, List.setIfInBounds_toArray, List.set_cons_zero, List.set_cons_succ, i64_w, i32_w]
    rfl
  refine take_ (i := 1) (N := some 11) (v := ?_) (a' := ?_) #[true, true, false, false, false, false, false] rfl rfl (by kernel_rfl) (fun _ _ _ h => h) (Or.inl ⟨by rfl, ?_⟩) hHeld ?_ ?_
  rotate_left
  · rintro w' ⟨s0, s1, s2, s3, s4, s5, s6, s7, s8, s9, s10, s11, s12, s13, s14⟩
    go_simp
    with_reducible rfl
  rotate_left
  · simp only [Act.put, List.setIfInBounds_toArray, List.set_cons_zero, List.set_cons_succ, i64_w, i32_w]
    rfl
  refine take_ (i := 3) (N := some 13) (v := ?_) (a' := ?_) #[true, true, false, true, false, false, false] rfl rfl (by kernel_rfl) (fun _ _ _ h => h) (Or.inl ⟨by rfl, ?_⟩) hHeld ?_ ?_
  rotate_left
  · rintro w' ⟨s0, s1, s2, s3, s4, s5, s6, s7, s8, s9, s10, s11, s12, s13, s14⟩
    go_simp
    with_reducible rfl
  rotate_left
  · simp only [Act.put, List.setIfInBounds_toArray, List.set_cons_zero, List.set_cons_succ, i64_w, i32_w]
    rfl
  refine join_ (σ := Option Addr × Nat × Option Addr × Nat × Option Addr × Nat × Option Addr × Nat × Nat) 1 #[true, true, true, true, true, true, false] (fun s_ => [(12, .agg (cE p0 p1 p2 (.slice s_.1 r1 s_.2.1) (.slice s_.2.2.1 s1 s_.2.2.2.1))), (14, .agg (cE x0 x1 x2 (.slice s_.2.2.2.2.1 r2 s_.2.2.2.2.2.1) (.slice s_.2.2.2.2.2.2.1 s2 s_.2.2.2.2.2.2.2.1))), (7, .pointer (some ⟨s_.2.2.2.2.2.2.2.2, 0, none⟩))]) (fun s_ w' => (w'.cell? ⟨w.heap.size, 0, none⟩ = some (.int .i64 a0) ∧ w'.cell? ⟨w.heap.size, 1, none⟩ = some (.int .i64 a1) ∧ w'.cell? ⟨w.heap.size, 2, none⟩ = some (.int .u64 a2) ∧ w'.cell? ⟨w.heap.size, 3, none⟩ = some (.slice A3 n c3) ∧ w'.cell? ⟨w.heap.size, 4, none⟩ = some (.slice A4 m c4) ∧ w'.cell? ⟨w.heap.size + 1, 0, none⟩ = some (.int .i64 b0) ∧ w'.cell? ⟨w.heap.size + 1, 1, none⟩ = some (.int .i64 b1) ∧ w'.cell? ⟨w.heap.size + 1, 2, none⟩ = some (.int .u64 b2) ∧ w'.cell? ⟨w.heap.size + 1, 3, none⟩ = some (.slice B3 p d3) ∧ w'.cell? ⟨w.heap.size + 1, 4, none⟩ = some (.slice B4 q d4) ∧ w'.cell? ⟨w.heap.size + 1 + 1, 0, none⟩ = some (.int .i64 k0) ∧ w'.cell? ⟨w.heap.size + 1 + 1, 1, none⟩ = some (.int .i64 k1) ∧ w'.cell? ⟨w.heap.size + 1 + 1, 2, none⟩ = some (.int .u64 k2) ∧ w'.cell? ⟨w.heap.size + 1 + 1, 3, none⟩ = some (.slice C3 u e3) ∧ w'.cell? ⟨w.heap.size + 1 + 1, 4, none⟩ = some (.slice C4 v e4)) ∧ Below W0.heap.size W0 w' ∧ EdR w' w.heap.size (.slice s_.1 r1 s_.2.1) (.slice s_.2.2.1 s1 s_.2.2.2.1) (mG aG aC bG) (mC aC bC bG) ∧ EdR w' w.heap.size (.slice s_.2.2.2.2.1 r2 s_.2.2.2.2.2.1) (.slice s_.2.2.2.2.2.2.1 s2 s_.2.2.2.2.2.2.2.1) (mG (mG aG aC bG) (mC aC bC bG) cG) (mC (mC aC bC bG) cC cG) ∧ w'.heap[s_.2.2.2.2.2.2.2.2]? = some (.cells zE 31 (0, 0)) ∧ W0.heap.size ≤ s_.2.2.2.2.2.2.2.2) ?_ ?_
  rotate_left
  · intro hJ2_4_5
    refine join_ (σ := Option Addr × Nat × Option Addr × Nat × Option Addr × Nat × Option Addr × Nat) 2 #[true, true, true, true, true, false, false] (fun s_ => [(12, .agg (cE p0 p1 p2 (.slice s_.1 r1 s_.2.1) (.slice s_.2.2.1 s1 s_.2.2.2.1))), (14, .agg (cE x0 x1 x2 (.slice s_.2.2.2.2.1 r2 s_.2.2.2.2.2.1) (.slice s_.2.2.2.2.2.2.1 s2 s_.2.2.2.2.2.2.2)))]) (fun s_ w' => (w'.cell? ⟨w.heap.size, 0, none⟩ = some (.int .i64 a0) ∧ w'.cell? ⟨w.heap.size, 1, none⟩ = some (.int .i64 a1) ∧ w'.cell? ⟨w.heap.size, 2, none⟩ = some (.int .u64 a2) ∧ w'.cell? ⟨w.heap.size, 3, none⟩ = some (.slice A3 n c3) ∧ w'.cell? ⟨w.heap.size, 4, none⟩ = some (.slice A4 m c4) ∧ w'.cell? ⟨w.heap.size + 1, 0, none⟩ = some (.int .i64 b0) ∧ w'.cell? ⟨w.heap.size + 1, 1, none⟩ = some (.int .i64 b1) ∧ w'.cell? ⟨w.heap.size + 1, 2, none⟩ = some (.int .u64 b2) ∧ w'.cell? ⟨w.heap.size + 1, 3, none⟩ = some (.slice B3 p d3) ∧ w'.cell? ⟨w.heap.size + 1, 4, none⟩ = some (.slice B4 q d4) ∧ w'.cell? ⟨w.heap.size + 1 + 1, 0, none⟩ = some (.int .i64 k0) ∧ w'.cell? ⟨w.heap.size + 1 + 1, 1, none⟩ = some (.int .i64 k1) ∧ w'.cell? ⟨w.heap.size + 1 + 1, 2, none⟩ = some (.int .u64 k2) ∧ w'.cell? ⟨w.heap.size + 1 + 1, 3, none⟩ = some (.slice C3 u e3) ∧ w'.cell? ⟨w.heap.size + 1 + 1, 4, none⟩ = some (.slice C4 v e4)) ∧ Below W0.heap.size W0 w' ∧ EdR w' w.heap.size (.slice s_.1 r1 s_.2.1) (.slice s_.2.2.1 s1 s_.2.2.2.1) (mG aG aC bG) (mC aC bC bG) ∧ EdR w' w.heap.size (.slice s_.2.2.2.2.1 r2 s_.2.2.2.2.2.1) (.slice s_.2.2.2.2.2.2.1 s2 s_.2.2.2.2.2.2.2) (mG (mG aG aC bG) (mC aC bC bG) cG) (mC (mC aC bC bG) cC cG)) ?_ ?_
    rotate_left
    · intro hJ2_4
      refine join_ (σ := Option Addr × Nat × Option Addr × Nat × Nat) 2 #[true, true, true, true, false, true, false] (fun s_ => [(12, .agg (cE p0 p1 p2 (.slice s_.1 r1 s_.2.1) (.slice s_.2.2.1 s1 s_.2.2.2.1))), (7, .pointer (some ⟨s_.2.2.2.2, 0, none⟩))]) (fun s_ w' => (w'.cell? ⟨w.heap.size, 0, none⟩ = some (.int .i64 a0) ∧ w'.cell? ⟨w.heap.size, 1, none⟩ = some (.int .i64 a1) ∧ w'.cell? ⟨w.heap.size, 2, none⟩ = some (.int .u64 a2) ∧ w'.cell? ⟨w.heap.size, 3, none⟩ = some (.slice A3 n c3) ∧ w'.cell? ⟨w.heap.size, 4, none⟩ = some (.slice A4 m c4) ∧ w'.cell? ⟨w.heap.size + 1, 0, none⟩ = some (.int .i64 b0) ∧ w'.cell? ⟨w.heap.size + 1, 1, none⟩ = some (.int .i64 b1) ∧ w'.cell? ⟨w.heap.size + 1, 2, none⟩ = some (.int .u64 b2) ∧ w'.cell? ⟨w.heap.size + 1, 3, none⟩ = some (.slice B3 p d3) ∧ w'.cell? ⟨w.heap.size + 1, 4, none⟩ = some (.slice B4 q d4) ∧ w'.cell? ⟨w.heap.size + 1 + 1, 0, none⟩ = some (.int .i64 k0) ∧ w'.cell? ⟨w.heap.size + 1 + 1, 1, none⟩ = some (.int .i64 k1) ∧ w'.cell? ⟨w.heap.size + 1 + 1, 2, none⟩ = some (.int .u64 k2) ∧ w'.cell? ⟨w.heap.size + 1 + 1, 3, none⟩ = some (.slice C3 u e3) ∧ w'.cell? ⟨w.heap.size + 1 + 1, 4, none⟩ = some (.slice C4 v e4)) ∧ Below W0.heap.size W0 w' ∧ EdR w' w.heap.size (.slice s_.1 r1 s_.2.1) (.slice s_.2.2.1 s1 s_.2.2.2.1) (mG aG aC bG) (mC aC bC bG) ∧ w'.heap[s_.2.2.2.2]? = some (.cells zE 31 (0, 0)) ∧ W0.heap.size ≤ s_.2.2.2.2) ?_ ?_
      rotate_left
      · intro hJ2_5
        refine join_ (σ := Option Addr × Nat × Option Addr × Nat) 3 #[true, true, true, true, false, false, false] (fun s_ => [(12, .agg (cE p0 p1 p2 (.slice s_.1 r1 s_.2.1) (.slice s_.2.2.1 s1 s_.2.2.2)))]) (fun s_ w' => (w'.cell? ⟨w.heap.size, 0, none⟩ = some (.int .i64 a0) ∧ w'.cell? ⟨w.heap.size, 1, none⟩ = some (.int .i64 a1) ∧ w'.cell? ⟨w.heap.size, 2, none⟩ = some (.int .u64 a2) ∧ w'.cell? ⟨w.heap.size, 3, none⟩ = some (.slice A3 n c3) ∧ w'.cell? ⟨w.heap.size, 4, none⟩ = some (.slice A4 m c4) ∧ w'.cell? ⟨w.heap.size + 1, 0, none⟩ = some (.int .i64 b0) ∧ w'.cell? ⟨w.heap.size + 1, 1, none⟩ = some (.int .i64 b1) ∧ w'.cell? ⟨w.heap.size + 1, 2, none⟩ = some (.int .u64 b2) ∧ w'.cell? ⟨w.heap.size + 1, 3, none⟩ = some (.slice B3 p d3) ∧ w'.cell? ⟨w.heap.size + 1, 4, none⟩ = some (.slice B4 q d4) ∧ w'.cell? ⟨w.heap.size + 1 + 1, 0, none⟩ = some (.int .i64 k0) ∧ w'.cell? ⟨w.heap.size + 1 + 1, 1, none⟩ = some (.int .i64 k1) ∧ w'.cell? ⟨w.heap.size + 1 + 1, 2, none⟩ = some (.int .u64 k2) ∧ w'.cell? ⟨w.heap.size + 1 + 1, 3, none⟩ = some (.slice C3 u e3) ∧ w'.cell? ⟨w.heap.size + 1 + 1, 4, none⟩ = some (.slice C4 v e4)) ∧ Below W0.heap.size W0 w' ∧ EdR w' w.heap.size (.slice s_.1 r1 s_.2.1) (.slice s_.2.2.1 s1 s_.2.2.2) (mG aG aC bG) (mC aC bC bG)) ?_ ?_
        rotate_left
        · intro hJ2
          refine join_ (σ := Nat) 3 #[true, true, false, true, false, true, false] (fun s_ => [(7, .pointer (some ⟨s_, 0, none⟩))]) (fun s_ w' => (w'.cell? ⟨w.heap.size, 0, none⟩ = some (.int .i64 a0) ∧ w'.cell? ⟨w.heap.size, 1, none⟩ = some (.int .i64 a1) ∧ w'.cell? ⟨w.heap.size, 2, none⟩ = some (.int .u64 a2) ∧ w'.cell? ⟨w.heap.size, 3, none⟩ = some (.slice A3 n c3) ∧ w'.cell? ⟨w.heap.size, 4, none⟩ = some (.slice A4 m c4) ∧ w'.cell? ⟨w.heap.size + 1, 0, none⟩ = some (.int .i64 b0) ∧ w'.cell? ⟨w.heap.size + 1, 1, none⟩ = some (.int .i64 b1) ∧ w'.cell? ⟨w.heap.size + 1, 2, none⟩ = some (.int .u64 b2) ∧ w'.cell? ⟨w.heap.size + 1, 3, none⟩ = some (.slice B3 p d3) ∧ w'.cell? ⟨w.heap.size + 1, 4, none⟩ = some (.slice B4 q d4) ∧ w'.cell? ⟨w.heap.size + 1 + 1, 0, none⟩ = some (.int .i64 k0) ∧ w'.cell? ⟨w.heap.size + 1 + 1, 1, none⟩ = some (.int .i64 k1) ∧ w'.cell? ⟨w.heap.size + 1 + 1, 2, none⟩ = some (.int .u64 k2) ∧ w'.cell? ⟨w.heap.size + 1 + 1, 3, none⟩ = some (.slice C3 u e3) ∧ w'.cell? ⟨w.heap.size + 1 + 1, 4, none⟩ = some (.slice C4 v e4)) ∧ Below W0.heap.size W0 w' ∧ w'.heap[s_]? = some (.cells zE 31 (0, 0)) ∧ W0.heap.size ≤ s_) ?_ ?_
          rotate_left
          · intro hJ5
            refine two_ (i := 2) (j := 5) (Ni := some 12) (Nj := some 7) #[true, true, true, true, false, false, false] #[true, true, false, true, false, true, false] rfl rfl rfl rfl (by kernel_rfl) (by decide) (by decide) (fun K hK => ?_) (fun K hK => ?_)
            · skip
              refine goes_ Try.func11 (by kernel_rfl) rfl #[.agg (cE a0 a1 a2 (.slice A3 n c3) (.slice A4 m c4)), .agg (cE b0 b1 b2 (.slice B3 p d3) (.slice B4 q d4))] (by rfl) rfl rfl (by simp only [List.map_toArray, List.map_cons, List.map_nil]; rfl) ?_
              with_reducible refine (M1.out _ (below_step HB.out (below_drew1 (Below.refl _ _)))).mono ?_
              rintro e wn ⟨X3, x3, X4, x4, rfl, hr, hb⟩
              refine ⟨_, rfl, ?_⟩
              have HBN := Aside0.mk (show Below W0.heap.size W0 wn from below_step (below_drew1 (Below.refl _ _)) hb)
              have HE2 := Aside0.mk (hr.lower (below_size (below_step HB.out (below_drew1 (Below.refl _ _)))))
              clear hr hb
              refine hK.out _ _ ⟨pw_cell_below HBN.out cA0, pw_cell_below HBN.out cA1, pw_cell_below HBN.out cA2, pw_cell_below HBN.out cA3, pw_cell_below HBN.out cA4, pw_cell_below HBN.out cB0, pw_cell_below HBN.out cB1, pw_cell_below HBN.out cB2, pw_cell_below HBN.out cB3, pw_cell_below HBN.out cB4, pw_cell_below HBN.out cC0, pw_cell_below HBN.out cC1, pw_cell_below HBN.out cC2, pw_cell_below HBN.out cC3, pw_cell_below HBN.out cC4⟩ (fun hHeld => ?_)
              clear hK K
              refine norm_ (a' := ?_) ?_ ?_
              rotate_left
              · show Act.put _ (some 12) _ = _
                simp only [Act.put, List.setIfInBounds_toArray, List.set_cons_zero, List.set_cons_succ, i64_w, i32_w]
                rfl
              exact norm_ (by first | (simp only [putAll, Act.put, List.setIfInBounds_toArray, List.set_cons_zero, List.set_cons_succ]; done) | (simp only [putAll, Act.put, List.setIfInBounds_toArray, List.set_cons_zero, List.set_cons_succ]; rfl)) (hJ2 (X3, x3, X4, x4) _ ⟨hHeld, HBN.out, HE2.out⟩)
            · skip
              refine box_step (by rfl) (N := 7) rfl (cs := zE) (t := 31) (by first | (go_simp; done) | (go_simp; rfl)) ?_
              intro g7 hgo wn hbox hb
              have HBN := Aside0.mk (show Below W0.heap.size W0 wn from below_step (below_drew1 (Below.refl _ _)) hb)
              have HX5 := Aside0.mk hbox
              have HG5 := Aside0.mk (show W0.heap.size ≤ g7 by rw [hgo]; exact below_size (below_drew1 (Below.refl _ _)))
              clear hgo hbox hb
              refine hK.out _ _ ⟨pw_cell_below HBN.out cA0, pw_cell_below HBN.out cA1, pw_cell_below HBN.out cA2, pw_cell_below HBN.out cA3, pw_cell_below HBN.out cA4, pw_cell_below HBN.out cB0, pw_cell_below HBN.out cB1, pw_cell_below HBN.out cB2, pw_cell_below HBN.out cB3, pw_cell_below HBN.out cB4, pw_cell_below HBN.out cC0, pw_cell_below HBN.out cC1, pw_cell_below HBN.out cC2, pw_cell_below HBN.out cC3, pw_cell_below HBN.out cC4⟩ (fun hHeld => ?_)
              clear hK K
              refine norm_ (a' := ?_) ?_ ?_
              rotate_left
              · show Act.put _ (some 7) _ = _
                simp only [Act.put, List.setIfInBounds_toArray, List.set_cons_zero, List.set_cons_succ, i64_w, i32_w]
                rfl
              exact norm_ (by first | (simp only [putAll, Act.put, List.setIfInBounds_toArray, List.set_cons_zero, List.set_cons_succ]; done) | (simp only [putAll, Act.put, List.setIfInBounds_toArray, List.set_cons_zero, List.set_cons_succ]; rfl)) (hJ5 g7 _ ⟨hHeld, HBN.out, HX5.out, HG5.out⟩)
          · skip
            rintro g7 wf ⟨hS_, h0_, h1_, h2_⟩
            have HBW := Aside0.mk (show Below W0.heap.size W0 wf from h0_)
            have HX5 := Aside0.mk (show wf.heap[g7]? = some (.cells zE 31 (0, 0)) from h1_)
            have HG5 := Aside0.mk (show W0.heap.size ≤ g7 from h2_)
            clear h0_ h1_ h2_
            have hHeld := hS_
            refine norm_ (a' := ?_) ?_ ?_
            rotate_left
            · simp only [putAll, Act.put, List.setIfInBounds_toArray, List.set_cons_zero, List.set_cons_succ]
              rfl
            refine one_ (i := 2) (N := some 12) #[true, true, true, true, false, true, false] rfl rfl (by kernel_rfl) (by decide) (fun K hK => ?_)
            refine goes_ Try.func11 (by kernel_rfl) rfl #[.agg (cE a0 a1 a2 (.slice A3 n c3) (.slice A4 m c4)), .agg (cE b0 b1 b2 (.slice B3 p d3) (.slice B4 q d4))] (by rfl) rfl rfl (by simp only [List.map_toArray, List.map_cons, List.map_nil]; rfl) ?_
            with_reducible refine (M1.out _ (below_step HB.out HBW.out)).mono ?_
            rintro e wn ⟨X3, x3, X4, x4, rfl, hr, hb⟩
            refine ⟨_, rfl, ?_⟩
            have HBN := Aside0.mk (show Below W0.heap.size W0 wn from below_step HBW.out hb)
            have HX5 := Aside0.mk (blk_below HX5.out hb)
            have HE2 := Aside0.mk (hr.lower (below_size (below_step HB.out HBW.out)))
            clear hr hb
            refine hK.out _ _ ⟨pw_cell_below HBN.out cA0, pw_cell_below HBN.out cA1, pw_cell_below HBN.out cA2, pw_cell_below HBN.out cA3, pw_cell_below HBN.out cA4, pw_cell_below HBN.out cB0, pw_cell_below HBN.out cB1, pw_cell_below HBN.out cB2, pw_cell_below HBN.out cB3, pw_cell_below HBN.out cB4, pw_cell_below HBN.out cC0, pw_cell_below HBN.out cC1, pw_cell_below HBN.out cC2, pw_cell_below HBN.out cC3, pw_cell_below HBN.out cC4⟩ (fun hHeld => ?_)
            clear hK K
            refine norm_ (a' := ?_) ?_ ?_
            rotate_left
            · show Act.put _ (some 12) _ = _
              simp only [Act.put, List.setIfInBounds_toArray, List.set_cons_zero, List.set_cons_succ, i64_w, i32_w]
              rfl
            exact norm_ (by first | (simp only [putAll, Act.put, List.setIfInBounds_toArray, List.set_cons_zero, List.set_cons_succ]; done) | (simp only [putAll, Act.put, List.setIfInBounds_toArray, List.set_cons_zero, List.set_cons_succ]; rfl)) (hJ2_5 (X3, x3, X4, x4, g7) _ ⟨hHeld, HBN.out, HE2.out, HX5.out, HG5.out⟩)
        · skip
          rintro ⟨X3, x3, X4, x4⟩ wf ⟨hS_, h0_, h1_⟩
          have HBW := Aside0.mk (show Below W0.heap.size W0 wf from h0_)
          have HE2 := Aside0.mk (show EdR wf w.heap.size (.slice X3 r1 x3) (.slice X4 s1 x4) (mG aG aC bG) (mC aC bC bG) from h1_)
          clear h0_ h1_
          have hHeld := hS_
          refine norm_ (a' := ?_) ?_ ?_
          rotate_left
          · simp only [putAll, Act.put, List.setIfInBounds_toArray, List.set_cons_zero, List.set_cons_succ]
            rfl
          refine two_ (i := 4) (j := 5) (Ni := some 14) (Nj := some 7) #[true, true, true, true, true, false, false] #[true, true, true, true, false, true, false] rfl rfl rfl rfl (by kernel_rfl) (by decide) (by decide) (fun K hK => ?_) (fun K hK => ?_)
          · skip
            refine goes_ Try.func11 (by kernel_rfl) rfl #[.agg (cE p0 p1 p2 (.slice X3 r1 x3) (.slice X4 s1 x4)), .agg (cE k0 k1 k2 (.slice C3 u e3) (.slice C4 v e4))] (by rfl) rfl rfl (by simp only [List.map_toArray, List.map_cons, List.map_nil]; rfl) ?_
            with_reducible refine (M2.out X3 x3 X4 x4 _ _ HE2.out (below_step HB.out HBW.out)).mono ?_
            rintro e wn ⟨Z3, z3, Z4, z4, rfl, hr, hb⟩
            refine ⟨_, rfl, ?_⟩
            have HBN := Aside0.mk (show Below W0.heap.size W0 wn from below_step HBW.out hb)
            have HE2 := Aside0.mk (HE2.out.below hb)
            have HE4 := Aside0.mk (hr.lower (below_size (below_step HB.out HBW.out)))
            clear hr hb
            refine hK.out _ _ ⟨pw_cell_below HBN.out cA0, pw_cell_below HBN.out cA1, pw_cell_below HBN.out cA2, pw_cell_below HBN.out cA3, pw_cell_below HBN.out cA4, pw_cell_below HBN.out cB0, pw_cell_below HBN.out cB1, pw_cell_below HBN.out cB2, pw_cell_below HBN.out cB3, pw_cell_below HBN.out cB4, pw_cell_below HBN.out cC0, pw_cell_below HBN.out cC1, pw_cell_below HBN.out cC2, pw_cell_below HBN.out cC3, pw_cell_below HBN.out cC4⟩ (fun hHeld => ?_)
            clear hK K
            refine norm_ (a' := ?_) ?_ ?_
            rotate_left
            · show Act.put _ (some 14) _ = _
              simp only [Act.put, List.setIfInBounds_toArray, List.set_cons_zero, List.set_cons_succ, i64_w, i32_w]
              rfl
            exact norm_ (by first | (simp only [putAll, Act.put, List.setIfInBounds_toArray, List.set_cons_zero, List.set_cons_succ]; done) | (simp only [putAll, Act.put, List.setIfInBounds_toArray, List.set_cons_zero, List.set_cons_succ]; rfl)) (hJ2_4 (X3, x3, X4, x4, Z3, z3, Z4, z4) _ ⟨hHeld, HBN.out, HE2.out, HE4.out⟩)
          · skip
            refine box_step (by rfl) (N := 7) rfl (cs := zE) (t := 31) (by first | (go_simp; done) | (go_simp; rfl)) ?_
            intro g7 hgo wn hbox hb
            have HBN := Aside0.mk (show Below W0.heap.size W0 wn from below_step HBW.out hb)
            have HE2 := Aside0.mk (HE2.out.below hb)
            have HX5 := Aside0.mk hbox
            have HG5 := Aside0.mk (show W0.heap.size ≤ g7 by rw [hgo]; exact below_size HBW.out)
            clear hgo hbox hb
            refine hK.out _ _ ⟨pw_cell_below HBN.out cA0, pw_cell_below HBN.out cA1, pw_cell_below HBN.out cA2, pw_cell_below HBN.out cA3, pw_cell_below HBN.out cA4, pw_cell_below HBN.out cB0, pw_cell_below HBN.out cB1, pw_cell_below HBN.out cB2, pw_cell_below HBN.out cB3, pw_cell_below HBN.out cB4, pw_cell_below HBN.out cC0, pw_cell_below HBN.out cC1, pw_cell_below HBN.out cC2, pw_cell_below HBN.out cC3, pw_cell_below HBN.out cC4⟩ (fun hHeld => ?_)
            clear hK K
            refine norm_ (a' := ?_) ?_ ?_
            rotate_left
            · show Act.put _ (some 7) _ = _
              simp only [Act.put, List.setIfInBounds_toArray, List.set_cons_zero, List.set_cons_succ, i64_w, i32_w]
              rfl
            exact norm_ (by first | (simp only [putAll, Act.put, List.setIfInBounds_toArray, List.set_cons_zero, List.set_cons_succ]; done) | (simp only [putAll, Act.put, List.setIfInBounds_toArray, List.set_cons_zero, List.set_cons_succ]; rfl)) (hJ2_5 (X3, x3, X4, x4, g7) _ ⟨hHeld, HBN.out, HE2.out, HX5.out, HG5.out⟩)
      · skip
        rintro ⟨X3, x3, X4, x4, g7⟩ wf ⟨hS_, h0_, h1_, h2_, h3_⟩
        have HBW := Aside0.mk (show Below W0.heap.size W0 wf from h0_)
        have HE2 := Aside0.mk (show EdR wf w.heap.size (.slice X3 r1 x3) (.slice X4 s1 x4) (mG aG aC bG) (mC aC bC bG) from h1_)
        have HX5 := Aside0.mk (show wf.heap[g7]? = some (.cells zE 31 (0, 0)) from h2_)
        have HG5 := Aside0.mk (show W0.heap.size ≤ g7 from h3_)
        clear h0_ h1_ h2_ h3_
        have hHeld := hS_
        refine norm_ (a' := ?_) ?_ ?_
        rotate_left
        · simp only [putAll, Act.put, List.setIfInBounds_toArray, List.set_cons_zero, List.set_cons_succ]
          rfl
        refine one_ (i := 4) (N := some 14) #[true, true, true, true, true, true, false] rfl rfl (by kernel_rfl) (by decide) (fun K hK => ?_)
        refine goes_ Try.func11 (by kernel_rfl) rfl #[.agg (cE p0 p1 p2 (.slice X3 r1 x3) (.slice X4 s1 x4)), .agg (cE k0 k1 k2 (.slice C3 u e3) (.slice C4 v e4))] (by rfl) rfl rfl (by simp only [List.map_toArray, List.map_cons, List.map_nil]; rfl) ?_
        with_reducible refine (M2.out X3 x3 X4 x4 _ _ HE2.out (below_step HB.out HBW.out)).mono ?_
        rintro e wn ⟨Z3, z3, Z4, z4, rfl, hr, hb⟩
        refine ⟨_, rfl, ?_⟩
        have HBN := Aside0.mk (show Below W0.heap.size W0 wn from below_step HBW.out hb)
        have HE2 := Aside0.mk (HE2.out.below hb)
        have HX5 := Aside0.mk (blk_below HX5.out hb)
        have HE4 := Aside0.mk (hr.lower (below_size (below_step HB.out HBW.out)))
        clear hr hb
        refine hK.out _ _ ⟨pw_cell_below HBN.out cA0, pw_cell_below HBN.out cA1, pw_cell_below HBN.out cA2, pw_cell_below HBN.out cA3, pw_cell_below HBN.out cA4, pw_cell_below HBN.out cB0, pw_cell_below HBN.out cB1, pw_cell_below HBN.out cB2, pw_cell_below HBN.out cB3, pw_cell_below HBN.out cB4, pw_cell_below HBN.out cC0, pw_cell_below HBN.out cC1, pw_cell_below HBN.out cC2, pw_cell_below HBN.out cC3, pw_cell_below HBN.out cC4⟩ (fun hHeld => ?_)
        clear hK K
        refine norm_ (a' := ?_) ?_ ?_
        rotate_left
        · show Act.put _ (some 14) _ = _
          simp only [Act.put, List.setIfInBounds_toArray, List.set_cons_zero, List.set_cons_succ, i64_w, i32_w]
          rfl
        exact norm_ (by first | (simp only [putAll, Act.put, List.setIfInBounds_toArray, List.set_cons_zero, List.set_cons_succ]; done) | (simp only [putAll, Act.put, List.setIfInBounds_toArray, List.set_cons_zero, List.set_cons_succ]; rfl)) (hJ2_4_5 (X3, x3, X4, x4, Z3, z3, Z4, z4, g7) _ ⟨hHeld, HBN.out, HE2.out, HE4.out, HX5.out, HG5.out⟩)
    · skip
      rintro ⟨X3, x3, X4, x4, Z3, z3, Z4, z4⟩ wf ⟨hS_, h0_, h1_, h2_⟩
      have HBW := Aside0.mk (show Below W0.heap.size W0 wf from h0_)
      have HE2 := Aside0.mk (show EdR wf w.heap.size (.slice X3 r1 x3) (.slice X4 s1 x4) (mG aG aC bG) (mC aC bC bG) from h1_)
      have HE4 := Aside0.mk (show EdR wf w.heap.size (.slice Z3 r2 z3) (.slice Z4 s2 z4) (mG (mG aG aC bG) (mC aC bC bG) cG) (mC (mC aC bC bG) cC cG) from h2_)
      clear h0_ h1_ h2_
      have hHeld := hS_
      refine norm_ (a' := ?_) ?_ ?_
      rotate_left
      · simp only [putAll, Act.put, List.setIfInBounds_toArray, List.set_cons_zero, List.set_cons_succ]
        rfl
      refine one_ (i := 5) (N := some 7) #[true, true, true, true, true, true, false] rfl rfl (by kernel_rfl) (by decide) (fun K hK => ?_)
      refine box_step (by rfl) (N := 7) rfl (cs := zE) (t := 31) (by first | (go_simp; done) | (go_simp; rfl)) ?_
      intro g7 hgo wn hbox hb
      have HBN := Aside0.mk (show Below W0.heap.size W0 wn from below_step HBW.out hb)
      have HE2 := Aside0.mk (HE2.out.below hb)
      have HE4 := Aside0.mk (HE4.out.below hb)
      have HX5 := Aside0.mk hbox
      have HG5 := Aside0.mk (show W0.heap.size ≤ g7 by rw [hgo]; exact below_size HBW.out)
      clear hgo hbox hb
      refine hK.out _ _ ⟨pw_cell_below HBN.out cA0, pw_cell_below HBN.out cA1, pw_cell_below HBN.out cA2, pw_cell_below HBN.out cA3, pw_cell_below HBN.out cA4, pw_cell_below HBN.out cB0, pw_cell_below HBN.out cB1, pw_cell_below HBN.out cB2, pw_cell_below HBN.out cB3, pw_cell_below HBN.out cB4, pw_cell_below HBN.out cC0, pw_cell_below HBN.out cC1, pw_cell_below HBN.out cC2, pw_cell_below HBN.out cC3, pw_cell_below HBN.out cC4⟩ (fun hHeld => ?_)
      clear hK K
      refine norm_ (a' := ?_) ?_ ?_
      rotate_left
      · show Act.put _ (some 7) _ = _
        simp only [Act.put, List.setIfInBounds_toArray, List.set_cons_zero, List.set_cons_succ, i64_w, i32_w]
        rfl
      exact norm_ (by first | (simp only [putAll, Act.put, List.setIfInBounds_toArray, List.set_cons_zero, List.set_cons_succ]; done) | (simp only [putAll, Act.put, List.setIfInBounds_toArray, List.set_cons_zero, List.set_cons_succ]; rfl)) (hJ2_4_5 (X3, x3, X4, x4, Z3, z3, Z4, z4, g7) _ ⟨hHeld, HBN.out, HE2.out, HE4.out, HX5.out, HG5.out⟩)
  rintro ⟨X3, x3, X4, x4, Z3, z3, Z4, z4, g7⟩ wf ⟨hS_, h0_, h1_, h2_, h3_, h4_⟩
  have HBW := Aside0.mk (show Below W0.heap.size W0 wf from h0_)
  have HE2 := Aside0.mk (show EdR wf w.heap.size (.slice X3 r1 x3) (.slice X4 s1 x4) (mG aG aC bG) (mC aC bC bG) from h1_)
  have HE4 := Aside0.mk (show EdR wf w.heap.size (.slice Z3 r2 z3) (.slice Z4 s2 z4) (mG (mG aG aC bG) (mC aC bC bG) cG) (mC (mC aC bC bG) cC cG) from h2_)
  have HX5 := Aside0.mk (show wf.heap[g7]? = some (.cells zE 31 (0, 0)) from h3_)
  have HG5 := Aside0.mk (show W0.heap.size ≤ g7 from h4_)
  clear h0_ h1_ h2_ h3_ h4_
  have o5_0 : wf.cell? ⟨g7, 0, none⟩ = some (.int .i64 0) := (blk_cell HX5.out 0).trans rfl
  have o5_1 : wf.cell? ⟨g7, 1, none⟩ = some (.int .i64 0) := (blk_cell HX5.out 1).trans rfl
  have o5_2 : wf.cell? ⟨g7, 2, none⟩ = some (.int .u64 0) := (blk_cell HX5.out 2).trans rfl
  have o5_3 : wf.cell? ⟨g7, 3, none⟩ = some (.slice none 0 0) := (blk_cell HX5.out 3).trans rfl
  have o5_4 : wf.cell? ⟨g7, 4, none⟩ = some (.slice none 0 0) := (blk_cell HX5.out 4).trans rfl
  have q5_0 := blk_frozen HX5.out 0
  have q5_1 := blk_frozen HX5.out 1
  have q5_2 := blk_frozen HX5.out 2
  have q5_3 := blk_frozen HX5.out 3
  have q5_4 := blk_frozen HX5.out 4
  have hHeld := hS_
  refine norm_ (a' := ?_) ?_ ?_
  rotate_left
  · simp only [putAll, Act.put, List.setIfInBounds_toArray, List.set_cons_zero, List.set_cons_succ]
    rfl
  refine last_ (i := 6) (N := none) #[true, true, true, true, true, true, true] rfl rfl (by kernel_rfl) (by decide) (fun K hK => ?_)
  refine skip_ (w1 := ?_) (by rfl) rfl ?_ ?_
  rotate_left
  · go_simp
    rfl
  refine hK.out _ _ ?_
  clear hK K
  refine done_ (by kernel_rfl) ?_
  clear cA0 cA1 cA2 cA3 cA4 cB0 cB1 cB2 cB3 cB4 cC0 cC1 cC2 cC3 cC4 hHeld hS_ o5_0 o5_1 o5_2 o5_3 o5_4 q5_0 q5_1 q5_2 q5_3 q5_4
  have KX := Aside0.mk (toldW_blk (x0 := x0) (x1 := x1) (x2 := x2) (vG := .slice Z3 r2 z3) (vC := .slice Z4 s2 z4) HX5.out)
  have EX := Aside0.mk (HE4.out.told HX5.out x0 x1 x2 (.slice Z3 r2 z3) (.slice Z4 s2 z4))
  have lA := blk_lt KA.out
  have lB := blk_lt KB.out
  have lC := blk_lt KC.out
  have lg : W0.heap.size ≤ g7 := HG5.out
  have hwg : w.heap.size ≤ g7 := by have := HB.out.size; omega
  have KA := Aside0.mk (told_far (blk_below KA.out HBW.out) (show w.heap.size ≠ g7 by omega) x0 x1 x2 (.slice Z3 r2 z3) (.slice Z4 s2 z4))
  have KB := Aside0.mk (told_far (blk_below KB.out HBW.out) (show w.heap.size + 1 ≠ g7 by omega) x0 x1 x2 (.slice Z3 r2 z3) (.slice Z4 s2 z4))
  have KC := Aside0.mk (told_far (blk_below KC.out HBW.out) (show w.heap.size + 1 + 1 ≠ g7 by omega) x0 x1 x2 (.slice Z3 r2 z3) (.slice Z4 s2 z4))
  have HB := Aside0.mk (told_below (below_step HB.out HBW.out) hwg x0 x1 x2 (.slice Z3 r2 z3) (.slice Z4 s2 z4))
  obtain ⟨W1, hW1⟩ : ∃ W1, toldW wf g7 x0 x1 x2 (.slice Z3 r2 z3) (.slice Z4 s2 z4) = W1 := ⟨_, rfl⟩
  rw [hW1] at KX EX KA KB KC HB
  unfold toldW at hW1
  rw [hW1]
  clear hW1 HE2 HE4 HX5 HG5 HBW lA lB lC lg hwg M1 M2
  have cA0 := blk_cell KA.out 0
  have cA1 := blk_cell KA.out 1
  have cA2 := blk_cell KA.out 2
  have cA3 := blk_cell KA.out 3
  have cA4 := blk_cell KA.out 4
  have cB0 := blk_cell KB.out 0
  have cB1 := blk_cell KB.out 1
  have cB2 := blk_cell KB.out 2
  have cB3 := blk_cell KB.out 3
  have cB4 := blk_cell KB.out 4
  have cC0 := blk_cell KC.out 0
  have cC1 := blk_cell KC.out 1
  have cC2 := blk_cell KC.out 2
  have cC3 := blk_cell KC.out 3
  have cC4 := blk_cell KC.out 4
  go_wp2_with fail
  refine start_ (n := 7) (S := fun w' => w'.cell? ⟨w.heap.size, 0, none⟩ = some (.int .i64 a0) ∧ w'.cell? ⟨w.heap.size, 1, none⟩ = some (.int .i64 a1) ∧ w'.cell? ⟨w.heap.size, 2, none⟩ = some (.int .u64 a2) ∧ w'.cell? ⟨w.heap.size, 3, none⟩ = some (.slice A3 n c3) ∧ w'.cell? ⟨w.heap.size, 4, none⟩ = some (.slice A4 m c4) ∧ w'.cell? ⟨w.heap.size + 1, 0, none⟩ = some (.int .i64 b0) ∧ w'.cell? ⟨w.heap.size + 1, 1, none⟩ = some (.int .i64 b1) ∧ w'.cell? ⟨w.heap.size + 1, 2, none⟩ = some (.int .u64 b2) ∧ w'.cell? ⟨w.heap.size + 1, 3, none⟩ = some (.slice B3 p d3) ∧ w'.cell? ⟨w.heap.size + 1, 4, none⟩ = some (.slice B4 q d4) ∧ w'.cell? ⟨w.heap.size + 1 + 1, 0, none⟩ = some (.int .i64 k0) ∧ w'.cell? ⟨w.heap.size + 1 + 1, 1, none⟩ = some (.int .i64 k1) ∧ w'.cell? ⟨w.heap.size + 1 + 1, 2, none⟩ = some (.int .u64 k2) ∧ w'.cell? ⟨w.heap.size + 1 + 1, 3, none⟩ = some (.slice C3 u e3) ∧ w'.cell? ⟨w.heap.size + 1 + 1, 4, none⟩ = some (.slice C4 v e4)) (ds := [6]) #[false, false, false, false, false, false, false] (by kernel_rfl) rfl rfl ⟨cA0, cA1, cA2, cA3, cA4, cB0, cB1, cB2, cB3, cB4, cC0, cC1, cC2, cC3, cC4⟩ (fun hHeld => ?_)
  refine take_ (i := 0) (N := some 15) (v := ?_) (a' := ?_) #[true, false, false, false, false, false, false] rfl rfl (by kernel_rfl) (fun _ _ _ h => h) (Or.inl ⟨by rfl, ?_⟩) hHeld ?_ ?_
  rotate_left
  · rintro w' ⟨s0, s1, s2, s3, s4, s5, s6, s7, s8, s9, s10, s11, s12, s13, s14⟩
    go_simp
    with_reducible rfl
  rotate_left
  · simp only [Act.put, List.setIfInBounds_toArray, List.set_cons_zero, List.set_cons_succ, i64_w, i32_w]
    rfl
  refine take_ (i := 1) (N := some 16) (v := ?_) (a' := ?_) #[true, true, false, false, false, false, false] rfl rfl (by kernel_rfl) (fun _ _ _ h => h) (Or.inl ⟨by rfl, ?_⟩) hHeld ?_ ?_
  rotate_left
  · rintro w' ⟨s0, s1, s2, s3, s4, s5, s6, s7, s8, s9, s10, s11, s12, s13, s14⟩
    go_simp
    with_reducible rfl
  rotate_left
  · simp only [Act.put, List.setIfInBounds_toArray, List.set_cons_zero, List.set_cons_succ, i64_w, i32_w]
    rfl
  refine take_ (i := 2) (N := some 17) (v := ?_) (a' := ?_) #[true, true, true, false, false, false, false] rfl rfl (by kernel_rfl) (fun _ _ _ h => h) (Or.inl ⟨by rfl, ?_⟩) hHeld ?_ ?_
  rotate_left
  · rintro w' ⟨s0, s1, s2, s3, s4, s5, s6, s7, s8, s9, s10, s11, s12, s13, s14⟩
    go_simp
    with_reducible rfl
  rotate_left
  · simp only [Act.put, List.setIfInBounds_toArray, List.set_cons_zero, List.set_cons_succ, i64_w, i32_w]
    rfl
  refine join_ (σ := Option Addr × Nat × Option Addr × Nat × Option Addr × Nat × Option Addr × Nat × Nat) 1 #[true, true, true, true, true, true, false] (fun s_ => [(18, .agg (cE q0 q1 q2 (.slice s_.1 r3 s_.2.1) (.slice s_.2.2.1 s3 s_.2.2.2.1))), (19, .agg (cE x0 x1 x2 (.slice s_.2.2.2.2.1 r4 s_.2.2.2.2.2.1) (.slice s_.2.2.2.2.2.2.1 s4 s_.2.2.2.2.2.2.2.1))), (8, .pointer (some ⟨s_.2.2.2.2.2.2.2.2, 0, none⟩))]) (fun s_ w' => (w'.cell? ⟨w.heap.size, 0, none⟩ = some (.int .i64 a0) ∧ w'.cell? ⟨w.heap.size, 1, none⟩ = some (.int .i64 a1) ∧ w'.cell? ⟨w.heap.size, 2, none⟩ = some (.int .u64 a2) ∧ w'.cell? ⟨w.heap.size, 3, none⟩ = some (.slice A3 n c3) ∧ w'.cell? ⟨w.heap.size, 4, none⟩ = some (.slice A4 m c4) ∧ w'.cell? ⟨w.heap.size + 1, 0, none⟩ = some (.int .i64 b0) ∧ w'.cell? ⟨w.heap.size + 1, 1, none⟩ = some (.int .i64 b1) ∧ w'.cell? ⟨w.heap.size + 1, 2, none⟩ = some (.int .u64 b2) ∧ w'.cell? ⟨w.heap.size + 1, 3, none⟩ = some (.slice B3 p d3) ∧ w'.cell? ⟨w.heap.size + 1, 4, none⟩ = some (.slice B4 q d4) ∧ w'.cell? ⟨w.heap.size + 1 + 1, 0, none⟩ = some (.int .i64 k0) ∧ w'.cell? ⟨w.heap.size + 1 + 1, 1, none⟩ = some (.int .i64 k1) ∧ w'.cell? ⟨w.heap.size + 1 + 1, 2, none⟩ = some (.int .u64 k2) ∧ w'.cell? ⟨w.heap.size + 1 + 1, 3, none⟩ = some (.slice C3 u e3) ∧ w'.cell? ⟨w.heap.size + 1 + 1, 4, none⟩ = some (.slice C4 v e4)) ∧ Below W1.heap.size W1 w' ∧ EdR w' w.heap.size (.slice s_.1 r3 s_.2.1) (.slice s_.2.2.1 s3 s_.2.2.2.1) (mG bG bC cG) (mC bC cC cG) ∧ EdR w' w.heap.size (.slice s_.2.2.2.2.1 r4 s_.2.2.2.2.2.1) (.slice s_.2.2.2.2.2.2.1 s4 s_.2.2.2.2.2.2.2.1) (mG aG aC (mG bG bC cG)) (mC aC (mC bC cC cG) (mG bG bC cG)) ∧ w'.heap[s_.2.2.2.2.2.2.2.2]? = some (.cells zE 31 (0, 0)) ∧ W1.heap.size ≤ s_.2.2.2.2.2.2.2.2) ?_ ?_
  rotate_left
  · intro hJ3_4_5
    refine join_ (σ := Option Addr × Nat × Option Addr × Nat × Option Addr × Nat × Option Addr × Nat) 2 #[true, true, true, true, true, false, false] (fun s_ => [(18, .agg (cE q0 q1 q2 (.slice s_.1 r3 s_.2.1) (.slice s_.2.2.1 s3 s_.2.2.2.1))), (19, .agg (cE x0 x1 x2 (.slice s_.2.2.2.2.1 r4 s_.2.2.2.2.2.1) (.slice s_.2.2.2.2.2.2.1 s4 s_.2.2.2.2.2.2.2)))]) (fun s_ w' => (w'.cell? ⟨w.heap.size, 0, none⟩ = some (.int .i64 a0) ∧ w'.cell? ⟨w.heap.size, 1, none⟩ = some (.int .i64 a1) ∧ w'.cell? ⟨w.heap.size, 2, none⟩ = some (.int .u64 a2) ∧ w'.cell? ⟨w.heap.size, 3, none⟩ = some (.slice A3 n c3) ∧ w'.cell? ⟨w.heap.size, 4, none⟩ = some (.slice A4 m c4) ∧ w'.cell? ⟨w.heap.size + 1, 0, none⟩ = some (.int .i64 b0) ∧ w'.cell? ⟨w.heap.size + 1, 1, none⟩ = some (.int .i64 b1) ∧ w'.cell? ⟨w.heap.size + 1, 2, none⟩ = some (.int .u64 b2) ∧ w'.cell? ⟨w.heap.size + 1, 3, none⟩ = some (.slice B3 p d3) ∧ w'.cell? ⟨w.heap.size + 1, 4, none⟩ = some (.slice B4 q d4) ∧ w'.cell? ⟨w.heap.size + 1 + 1, 0, none⟩ = some (.int .i64 k0) ∧ w'.cell? ⟨w.heap.size + 1 + 1, 1, none⟩ = some (.int .i64 k1) ∧ w'.cell? ⟨w.heap.size + 1 + 1, 2, none⟩ = some (.int .u64 k2) ∧ w'.cell? ⟨w.heap.size + 1 + 1, 3, none⟩ = some (.slice C3 u e3) ∧ w'.cell? ⟨w.heap.size + 1 + 1, 4, none⟩ = some (.slice C4 v e4)) ∧ Below W1.heap.size W1 w' ∧ EdR w' w.heap.size (.slice s_.1 r3 s_.2.1) (.slice s_.2.2.1 s3 s_.2.2.2.1) (mG bG bC cG) (mC bC cC cG) ∧ EdR w' w.heap.size (.slice s_.2.2.2.2.1 r4 s_.2.2.2.2.2.1) (.slice s_.2.2.2.2.2.2.1 s4 s_.2.2.2.2.2.2.2) (mG aG aC (mG bG bC cG)) (mC aC (mC bC cC cG) (mG bG bC cG))) ?_ ?_
    rotate_left
    · intro hJ3_4
      refine join_ (σ := Option Addr × Nat × Option Addr × Nat × Nat) 2 #[true, true, true, true, false, true, false] (fun s_ => [(18, .agg (cE q0 q1 q2 (.slice s_.1 r3 s_.2.1) (.slice s_.2.2.1 s3 s_.2.2.2.1))), (8, .pointer (some ⟨s_.2.2.2.2, 0, none⟩))]) (fun s_ w' => (w'.cell? ⟨w.heap.size, 0, none⟩ = some (.int .i64 a0) ∧ w'.cell? ⟨w.heap.size, 1, none⟩ = some (.int .i64 a1) ∧ w'.cell? ⟨w.heap.size, 2, none⟩ = some (.int .u64 a2) ∧ w'.cell? ⟨w.heap.size, 3, none⟩ = some (.slice A3 n c3) ∧ w'.cell? ⟨w.heap.size, 4, none⟩ = some (.slice A4 m c4) ∧ w'.cell? ⟨w.heap.size + 1, 0, none⟩ = some (.int .i64 b0) ∧ w'.cell? ⟨w.heap.size + 1, 1, none⟩ = some (.int .i64 b1) ∧ w'.cell? ⟨w.heap.size + 1, 2, none⟩ = some (.int .u64 b2) ∧ w'.cell? ⟨w.heap.size + 1, 3, none⟩ = some (.slice B3 p d3) ∧ w'.cell? ⟨w.heap.size + 1, 4, none⟩ = some (.slice B4 q d4) ∧ w'.cell? ⟨w.heap.size + 1 + 1, 0, none⟩ = some (.int .i64 k0) ∧ w'.cell? ⟨w.heap.size + 1 + 1, 1, none⟩ = some (.int .i64 k1) ∧ w'.cell? ⟨w.heap.size + 1 + 1, 2, none⟩ = some (.int .u64 k2) ∧ w'.cell? ⟨w.heap.size + 1 + 1, 3, none⟩ = some (.slice C3 u e3) ∧ w'.cell? ⟨w.heap.size + 1 + 1, 4, none⟩ = some (.slice C4 v e4)) ∧ Below W1.heap.size W1 w' ∧ EdR w' w.heap.size (.slice s_.1 r3 s_.2.1) (.slice s_.2.2.1 s3 s_.2.2.2.1) (mG bG bC cG) (mC bC cC cG) ∧ w'.heap[s_.2.2.2.2]? = some (.cells zE 31 (0, 0)) ∧ W1.heap.size ≤ s_.2.2.2.2) ?_ ?_
      rotate_left
      · intro hJ3_5
        refine join_ (σ := Option Addr × Nat × Option Addr × Nat) 3 #[true, true, true, true, false, false, false] (fun s_ => [(18, .agg (cE q0 q1 q2 (.slice s_.1 r3 s_.2.1) (.slice s_.2.2.1 s3 s_.2.2.2)))]) (fun s_ w' => (w'.cell? ⟨w.heap.size, 0, none⟩ = some (.int .i64 a0) ∧ w'.cell? ⟨w.heap.size, 1, none⟩ = some (.int .i64 a1) ∧ w'.cell? ⟨w.heap.size, 2, none⟩ = some (.int .u64 a2) ∧ w'.cell? ⟨w.heap.size, 3, none⟩ = some (.slice A3 n c3) ∧ w'.cell? ⟨w.heap.size, 4, none⟩ = some (.slice A4 m c4) ∧ w'.cell? ⟨w.heap.size + 1, 0, none⟩ = some (.int .i64 b0) ∧ w'.cell? ⟨w.heap.size + 1, 1, none⟩ = some (.int .i64 b1) ∧ w'.cell? ⟨w.heap.size + 1, 2, none⟩ = some (.int .u64 b2) ∧ w'.cell? ⟨w.heap.size + 1, 3, none⟩ = some (.slice B3 p d3) ∧ w'.cell? ⟨w.heap.size + 1, 4, none⟩ = some (.slice B4 q d4) ∧ w'.cell? ⟨w.heap.size + 1 + 1, 0, none⟩ = some (.int .i64 k0) ∧ w'.cell? ⟨w.heap.size + 1 + 1, 1, none⟩ = some (.int .i64 k1) ∧ w'.cell? ⟨w.heap.size + 1 + 1, 2, none⟩ = some (.int .u64 k2) ∧ w'.cell? ⟨w.heap.size + 1 + 1, 3, none⟩ = some (.slice C3 u e3) ∧ w'.cell? ⟨w.heap.size + 1 + 1, 4, none⟩ = some (.slice C4 v e4)) ∧ Below W1.heap.size W1 w' ∧ EdR w' w.heap.size (.slice s_.1 r3 s_.2.1) (.slice s_.2.2.1 s3 s_.2.2.2) (mG bG bC cG) (mC bC cC cG)) ?_ ?_
        rotate_left
        · intro hJ3
          refine join_ (σ := Nat) 3 #[true, true, true, false, false, true, false] (fun s_ => [(8, .pointer (some ⟨s_, 0, none⟩))]) (fun s_ w' => (w'.cell? ⟨w.heap.size, 0, none⟩ = some (.int .i64 a0) ∧ w'.cell? ⟨w.heap.size, 1, none⟩ = some (.int .i64 a1) ∧ w'.cell? ⟨w.heap.size, 2, none⟩ = some (.int .u64 a2) ∧ w'.cell? ⟨w.heap.size, 3, none⟩ = some (.slice A3 n c3) ∧ w'.cell? ⟨w.heap.size, 4, none⟩ = some (.slice A4 m c4) ∧ w'.cell? ⟨w.heap.size + 1, 0, none⟩ = some (.int .i64 b0) ∧ w'.cell? ⟨w.heap.size + 1, 1, none⟩ = some (.int .i64 b1) ∧ w'.cell? ⟨w.heap.size + 1, 2, none⟩ = some (.int .u64 b2) ∧ w'.cell? ⟨w.heap.size + 1, 3, none⟩ = some (.slice B3 p d3) ∧ w'.cell? ⟨w.heap.size + 1, 4, none⟩ = some (.slice B4 q d4) ∧ w'.cell? ⟨w.heap.size + 1 + 1, 0, none⟩ = some (.int .i64 k0) ∧ w'.cell? ⟨w.heap.size + 1 + 1, 1, none⟩ = some (.int .i64 k1) ∧ w'.cell? ⟨w.heap.size + 1 + 1, 2, none⟩ = some (.int .u64 k2) ∧ w'.cell? ⟨w.heap.size + 1 + 1, 3, none⟩ = some (.slice C3 u e3) ∧ w'.cell? ⟨w.heap.size + 1 + 1, 4, none⟩ = some (.slice C4 v e4)) ∧ Below W1.heap.size W1 w' ∧ w'.heap[s_]? = some (.cells zE 31 (0, 0)) ∧ W1.heap.size ≤ s_) ?_ ?_
          rotate_left
          · intro hJ5
            refine two_ (i := 3) (j := 5) (Ni := some 18) (Nj := some 8) #[true, true, true, true, false, false, false] #[true, true, true, false, false, true, false] rfl rfl rfl rfl (by kernel_rfl) (by decide) (by decide) (fun K hK => ?_) (fun K hK => ?_)
            · skip
              refine goes_ Try.func11 (by kernel_rfl) rfl #[.agg (cE b0 b1 b2 (.slice B3 p d3) (.slice B4 q d4)), .agg (cE k0 k1 k2 (.slice C3 u e3) (.slice C4 v e4))] (by rfl) rfl rfl (by simp only [List.map_toArray, List.map_cons, List.map_nil]; rfl) ?_
              with_reducible refine (M3.out _ (below_step HB.out (below_drew1 (Below.refl _ _)))).mono ?_
              rintro e wn ⟨Y3, y3, Y4, y4, rfl, hr, hb⟩
              refine ⟨_, rfl, ?_⟩
              have HBN := Aside0.mk (show Below W1.heap.size W1 wn from below_step (below_drew1 (Below.refl _ _)) hb)
              have HE3 := Aside0.mk (hr.lower (below_size (below_step HB.out (below_drew1 (Below.refl _ _)))))
              clear hr hb
              refine hK.out _ _ ⟨pw_cell_below HBN.out cA0, pw_cell_below HBN.out cA1, pw_cell_below HBN.out cA2, pw_cell_below HBN.out cA3, pw_cell_below HBN.out cA4, pw_cell_below HBN.out cB0, pw_cell_below HBN.out cB1, pw_cell_below HBN.out cB2, pw_cell_below HBN.out cB3, pw_cell_below HBN.out cB4, pw_cell_below HBN.out cC0, pw_cell_below HBN.out cC1, pw_cell_below HBN.out cC2, pw_cell_below HBN.out cC3, pw_cell_below HBN.out cC4⟩ (fun hHeld => ?_)
              clear hK K
              refine norm_ (a' := ?_) ?_ ?_
              rotate_left
              · show Act.put _ (some 18) _ = _
                simp only [Act.put, List.setIfInBounds_toArray, List.set_cons_zero, List.set_cons_succ, i64_w, i32_w]
                rfl
              exact norm_ (by first | (simp only [putAll, Act.put, List.setIfInBounds_toArray, List.set_cons_zero, List.set_cons_succ]; done) | (simp only [putAll, Act.put, List.setIfInBounds_toArray, List.set_cons_zero, List.set_cons_succ]; rfl)) (hJ3 (Y3, y3, Y4, y4) _ ⟨hHeld, HBN.out, HE3.out⟩)
            · skip
              refine box_step (by rfl) (N := 8) rfl (cs := zE) (t := 31) (by first | (go_simp; done) | (go_simp; rfl)) ?_
              intro g8 hgo wn hbox hb
              have HBN := Aside0.mk (show Below W1.heap.size W1 wn from below_step (below_drew1 (Below.refl _ _)) hb)
              have HX5 := Aside0.mk hbox
              have HG5 := Aside0.mk (show W1.heap.size ≤ g8 by rw [hgo]; exact below_size (below_drew1 (Below.refl _ _)))
              clear hgo hbox hb
              refine hK.out _ _ ⟨pw_cell_below HBN.out cA0, pw_cell_below HBN.out cA1, pw_cell_below HBN.out cA2, pw_cell_below HBN.out cA3, pw_cell_below HBN.out cA4, pw_cell_below HBN.out cB0, pw_cell_below HBN.out cB1, pw_cell_below HBN.out cB2, pw_cell_below HBN.out cB3, pw_cell_below HBN.out cB4, pw_cell_below HBN.out cC0, pw_cell_below HBN.out cC1, pw_cell_below HBN.out cC2, pw_cell_below HBN.out cC3, pw_cell_below HBN.out cC4⟩ (fun hHeld => ?_)
              clear hK K
              refine norm_ (a' := ?_) ?_ ?_
              rotate_left
              · show Act.put _ (some 8) _ = _
                simp only [Act.put, List.setIfInBounds_toArray, List.set_cons_zero, List.set_cons_succ, i64_w, i32_w]
                rfl
              exact norm_ (by first | (simp only [putAll, Act.put, List.setIfInBounds_toArray, List.set_cons_zero, List.set_cons_succ]; done) | (simp only [putAll, Act.put, List.setIfInBounds_toArray, List.set_cons_zero, List.set_cons_succ]; rfl)) (hJ5 g8 _ ⟨hHeld, HBN.out, HX5.out, HG5.out⟩)
          · skip
            rintro g8 wf ⟨hS_, h0_, h1_, h2_⟩
            have HBW := Aside0.mk (show Below W1.heap.size W1 wf from h0_)
            have HX5 := Aside0.mk (show wf.heap[g8]? = some (.cells zE 31 (0, 0)) from h1_)
            have HG5 := Aside0.mk (show W1.heap.size ≤ g8 from h2_)
            clear h0_ h1_ h2_
            have hHeld := hS_
            refine norm_ (a' := ?_) ?_ ?_
            rotate_left
            · simp only [putAll, Act.put, List.setIfInBounds_toArray, List.set_cons_zero, List.set_cons_succ]
              rfl
            refine one_ (i := 3) (N := some 18) #[true, true, true, true, false, true, false] rfl rfl (by kernel_rfl) (by decide) (fun K hK => ?_)
            refine goes_ Try.func11 (by kernel_rfl) rfl #[.agg (cE b0 b1 b2 (.slice B3 p d3) (.slice B4 q d4)), .agg (cE k0 k1 k2 (.slice C3 u e3) (.slice C4 v e4))] (by rfl) rfl rfl (by simp only [List.map_toArray, List.map_cons, List.map_nil]; rfl) ?_
            with_reducible refine (M3.out _ (below_step HB.out HBW.out)).mono ?_
            rintro e wn ⟨Y3, y3, Y4, y4, rfl, hr, hb⟩
            refine ⟨_, rfl, ?_⟩
            have HBN := Aside0.mk (show Below W1.heap.size W1 wn from below_step HBW.out hb)
            have HX5 := Aside0.mk (blk_below HX5.out hb)
            have HE3 := Aside0.mk (hr.lower (below_size (below_step HB.out HBW.out)))
            clear hr hb
            refine hK.out _ _ ⟨pw_cell_below HBN.out cA0, pw_cell_below HBN.out cA1, pw_cell_below HBN.out cA2, pw_cell_below HBN.out cA3, pw_cell_below HBN.out cA4, pw_cell_below HBN.out cB0, pw_cell_below HBN.out cB1, pw_cell_below HBN.out cB2, pw_cell_below HBN.out cB3, pw_cell_below HBN.out cB4, pw_cell_below HBN.out cC0, pw_cell_below HBN.out cC1, pw_cell_below HBN.out cC2, pw_cell_below HBN.out cC3, pw_cell_below HBN.out cC4⟩ (fun hHeld => ?_)
            clear hK K
            refine norm_ (a' := ?_) ?_ ?_
            rotate_left
            · show Act.put _ (some 18) _ = _
              simp only [Act.put, List.setIfInBounds_toArray, List.set_cons_zero, List.set_cons_succ, i64_w, i32_w]
              rfl
            exact norm_ (by first | (simp only [putAll, Act.put, List.setIfInBounds_toArray, List.set_cons_zero, List.set_cons_succ]; done) | (simp only [putAll, Act.put, List.setIfInBounds_toArray, List.set_cons_zero, List.set_cons_succ]; rfl)) (hJ3_5 (Y3, y3, Y4, y4, g8) _ ⟨hHeld, HBN.out, HE3.out, HX5.out, HG5.out⟩)
        · skip
          rintro ⟨Y3, y3, Y4, y4⟩ wf ⟨hS_, h0_, h1_⟩
          have HBW := Aside0.mk (show Below W1.heap.size W1 wf from h0_)
          have HE3 := Aside0.mk (show EdR wf w.heap.size (.slice Y3 r3 y3) (.slice Y4 s3 y4) (mG bG bC cG) (mC bC cC cG) from h1_)
          clear h0_ h1_
          have hHeld := hS_
          refine norm_ (a' := ?_) ?_ ?_
          rotate_left
          · simp only [putAll, Act.put, List.setIfInBounds_toArray, List.set_cons_zero, List.set_cons_succ]
            rfl
          refine two_ (i := 4) (j := 5) (Ni := some 19) (Nj := some 8) #[true, true, true, true, true, false, false] #[true, true, true, true, false, true, false] rfl rfl rfl rfl (by kernel_rfl) (by decide) (by decide) (fun K hK => ?_) (fun K hK => ?_)
          · skip
            refine goes_ Try.func11 (by kernel_rfl) rfl #[.agg (cE a0 a1 a2 (.slice A3 n c3) (.slice A4 m c4)), .agg (cE q0 q1 q2 (.slice Y3 r3 y3) (.slice Y4 s3 y4))] (by rfl) rfl rfl (by simp only [List.map_toArray, List.map_cons, List.map_nil]; rfl) ?_
            with_reducible refine (M4.out Y3 y3 Y4 y4 _ _ HE3.out (below_step HB.out HBW.out)).mono ?_
            rintro e wn ⟨V3, v3, V4, v4, rfl, hr, hb⟩
            refine ⟨_, rfl, ?_⟩
            have HBN := Aside0.mk (show Below W1.heap.size W1 wn from below_step HBW.out hb)
            have HE3 := Aside0.mk (HE3.out.below hb)
            have HE4 := Aside0.mk (hr.lower (below_size (below_step HB.out HBW.out)))
            clear hr hb
            refine hK.out _ _ ⟨pw_cell_below HBN.out cA0, pw_cell_below HBN.out cA1, pw_cell_below HBN.out cA2, pw_cell_below HBN.out cA3, pw_cell_below HBN.out cA4, pw_cell_below HBN.out cB0, pw_cell_below HBN.out cB1, pw_cell_below HBN.out cB2, pw_cell_below HBN.out cB3, pw_cell_below HBN.out cB4, pw_cell_below HBN.out cC0, pw_cell_below HBN.out cC1, pw_cell_below HBN.out cC2, pw_cell_below HBN.out cC3, pw_cell_below HBN.out cC4⟩ (fun hHeld => ?_)
            clear hK K
            refine norm_ (a' := ?_) ?_ ?_
            rotate_left
            · show Act.put _ (some 19) _ = _
              simp only [Act.put, List.setIfInBounds_toArray, List.set_cons_zero, List.set_cons_succ, i64_w, i32_w]
              rfl
            exact norm_ (by first | (simp only [putAll, Act.put, List.setIfInBounds_toArray, List.set_cons_zero, List.set_cons_succ]; done) | (simp only [putAll, Act.put, List.setIfInBounds_toArray, List.set_cons_zero, List.set_cons_succ]; rfl)) (hJ3_4 (Y3, y3, Y4, y4, V3, v3, V4, v4) _ ⟨hHeld, HBN.out, HE3.out, HE4.out⟩)
          · skip
            refine box_step (by rfl) (N := 8) rfl (cs := zE) (t := 31) (by first | (go_simp; done) | (go_simp; rfl)) ?_
            intro g8 hgo wn hbox hb
            have HBN := Aside0.mk (show Below W1.heap.size W1 wn from below_step HBW.out hb)
            have HE3 := Aside0.mk (HE3.out.below hb)
            have HX5 := Aside0.mk hbox
            have HG5 := Aside0.mk (show W1.heap.size ≤ g8 by rw [hgo]; exact below_size HBW.out)
            clear hgo hbox hb
            refine hK.out _ _ ⟨pw_cell_below HBN.out cA0, pw_cell_below HBN.out cA1, pw_cell_below HBN.out cA2, pw_cell_below HBN.out cA3, pw_cell_below HBN.out cA4, pw_cell_below HBN.out cB0, pw_cell_below HBN.out cB1, pw_cell_below HBN.out cB2, pw_cell_below HBN.out cB3, pw_cell_below HBN.out cB4, pw_cell_below HBN.out cC0, pw_cell_below HBN.out cC1, pw_cell_below HBN.out cC2, pw_cell_below HBN.out cC3, pw_cell_below HBN.out cC4⟩ (fun hHeld => ?_)
            clear hK K
            refine norm_ (a' := ?_) ?_ ?_
            rotate_left
            · show Act.put _ (some 8) _ = _
              simp only [Act.put, List.setIfInBounds_toArray, List.set_cons_zero, List.set_cons_succ, i64_w, i32_w]
              rfl
            exact norm_ (by first | (simp only [putAll, Act.put, List.setIfInBounds_toArray, List.set_cons_zero, List.set_cons_succ]; done) | (simp only [putAll, Act.put, List.setIfInBounds_toArray, List.set_cons_zero, List.set_cons_succ]; rfl)) (hJ3_5 (Y3, y3, Y4, y4, g8) _ ⟨hHeld, HBN.out, HE3.out, HX5.out, HG5.out⟩)
      · skip
        rintro ⟨Y3, y3, Y4, y4, g8⟩ wf ⟨hS_, h0_, h1_, h2_, h3_⟩
        have HBW := Aside0.mk (show Below W1.heap.size W1 wf from h0_)
        have HE3 := Aside0.mk (show EdR wf w.heap.size (.slice Y3 r3 y3) (.slice Y4 s3 y4) (mG bG bC cG) (mC bC cC cG) from h1_)
        have HX5 := Aside0.mk (show wf.heap[g8]? = some (.cells zE 31 (0, 0)) from h2_)
        have HG5 := Aside0.mk (show W1.heap.size ≤ g8 from h3_)
        clear h0_ h1_ h2_ h3_
        have hHeld := hS_
        refine norm_ (a' := ?_) ?_ ?_
        rotate_left
        · simp only [putAll, Act.put, List.setIfInBounds_toArray, List.set_cons_zero, List.set_cons_succ]
          rfl
        refine one_ (i := 4) (N := some 19) #[true, true, true, true, true, true, false] rfl rfl (by kernel_rfl) (by decide) (fun K hK => ?_)
        refine goes_ Try.func11 (by kernel_rfl) rfl #[.agg (cE a0 a1 a2 (.slice A3 n c3) (.slice A4 m c4)), .agg (cE q0 q1 q2 (.slice Y3 r3 y3) (.slice Y4 s3 y4))] (by rfl) rfl rfl (by simp only [List.map_toArray, List.map_cons, List.map_nil]; rfl) ?_
        with_reducible refine (M4.out Y3 y3 Y4 y4 _ _ HE3.out (below_step HB.out HBW.out)).mono ?_
        rintro e wn ⟨V3, v3, V4, v4, rfl, hr, hb⟩
        refine ⟨_, rfl, ?_⟩
        have HBN := Aside0.mk (show Below W1.heap.size W1 wn from below_step HBW.out hb)
        have HE3 := Aside0.mk (HE3.out.below hb)
        have HX5 := Aside0.mk (blk_below HX5.out hb)
        have HE4 := Aside0.mk (hr.lower (below_size (below_step HB.out HBW.out)))
        clear hr hb
        refine hK.out _ _ ⟨pw_cell_below HBN.out cA0, pw_cell_below HBN.out cA1, pw_cell_below HBN.out cA2, pw_cell_below HBN.out cA3, pw_cell_below HBN.out cA4, pw_cell_below HBN.out cB0, pw_cell_below HBN.out cB1, pw_cell_below HBN.out cB2, pw_cell_below HBN.out cB3, pw_cell_below HBN.out cB4, pw_cell_below HBN.out cC0, pw_cell_below HBN.out cC1, pw_cell_below HBN.out cC2, pw_cell_below HBN.out cC3, pw_cell_below HBN.out cC4⟩ (fun hHeld => ?_)
        clear hK K
        refine norm_ (a' := ?_) ?_ ?_
        rotate_left
        · show Act.put _ (some 19) _ = _
          simp only [Act.put, List.setIfInBounds_toArray, List.set_cons_zero, List.set_cons_succ, i64_w, i32_w]
          rfl
        exact norm_ (by first | (simp only [putAll, Act.put, List.setIfInBounds_toArray, List.set_cons_zero, List.set_cons_succ]; done) | (simp only [putAll, Act.put, List.setIfInBounds_toArray, List.set_cons_zero, List.set_cons_succ]; rfl)) (hJ3_4_5 (Y3, y3, Y4, y4, V3, v3, V4, v4, g8) _ ⟨hHeld, HBN.out, HE3.out, HE4.out, HX5.out, HG5.out⟩)
    · skip
      rintro ⟨Y3, y3, Y4, y4, V3, v3, V4, v4⟩ wf ⟨hS_, h0_, h1_, h2_⟩
      have HBW := Aside0.mk (show Below W1.heap.size W1 wf from h0_)
      have HE3 := Aside0.mk (show EdR wf w.heap.size (.slice Y3 r3 y3) (.slice Y4 s3 y4) (mG bG bC cG) (mC bC cC cG) from h1_)
      have HE4 := Aside0.mk (show EdR wf w.heap.size (.slice V3 r4 v3) (.slice V4 s4 v4) (mG aG aC (mG bG bC cG)) (mC aC (mC bC cC cG) (mG bG bC cG)) from h2_)
      clear h0_ h1_ h2_
      have hHeld := hS_
      refine norm_ (a' := ?_) ?_ ?_
      rotate_left
      · simp only [putAll, Act.put, List.setIfInBounds_toArray, List.set_cons_zero, List.set_cons_succ]
        rfl
      refine one_ (i := 5) (N := some 8) #[true, true, true, true, true, true, false] rfl rfl (by kernel_rfl) (by decide) (fun K hK => ?_)
      refine box_step (by rfl) (N := 8) rfl (cs := zE) (t := 31) (by first | (go_simp; done) | (go_simp; rfl)) ?_
      intro g8 hgo wn hbox hb
      have HBN := Aside0.mk (show Below W1.heap.size W1 wn from below_step HBW.out hb)
      have HE3 := Aside0.mk (HE3.out.below hb)
      have HE4 := Aside0.mk (HE4.out.below hb)
      have HX5 := Aside0.mk hbox
      have HG5 := Aside0.mk (show W1.heap.size ≤ g8 by rw [hgo]; exact below_size HBW.out)
      clear hgo hbox hb
      refine hK.out _ _ ⟨pw_cell_below HBN.out cA0, pw_cell_below HBN.out cA1, pw_cell_below HBN.out cA2, pw_cell_below HBN.out cA3, pw_cell_below HBN.out cA4, pw_cell_below HBN.out cB0, pw_cell_below HBN.out cB1, pw_cell_below HBN.out cB2, pw_cell_below HBN.out cB3, pw_cell_below HBN.out cB4, pw_cell_below HBN.out cC0, pw_cell_below HBN.out cC1, pw_cell_below HBN.out cC2, pw_cell_below HBN.out cC3, pw_cell_below HBN.out cC4⟩ (fun hHeld => ?_)
      clear hK K
      refine norm_ (a' := ?_) ?_ ?_
      rotate_left
      · show Act.put _ (some 8) _ = _
        simp only [Act.put, List.setIfInBounds_toArray, List.set_cons_zero, List.set_cons_succ, i64_w, i32_w]
        rfl
      exact norm_ (by first | (simp only [putAll, Act.put, List.setIfInBounds_toArray, List.set_cons_zero, List.set_cons_succ]; done) | (simp only [putAll, Act.put, List.setIfInBounds_toArray, List.set_cons_zero, List.set_cons_succ]; rfl)) (hJ3_4_5 (Y3, y3, Y4, y4, V3, v3, V4, v4, g8) _ ⟨hHeld, HBN.out, HE3.out, HE4.out, HX5.out, HG5.out⟩)
  rintro ⟨Y3, y3, Y4, y4, V3, v3, V4, v4, g8⟩ wf ⟨hS_, h0_, h1_, h2_, h3_, h4_⟩
  have HBW := Aside0.mk (show Below W1.heap.size W1 wf from h0_)
  have HE3 := Aside0.mk (show EdR wf w.heap.size (.slice Y3 r3 y3) (.slice Y4 s3 y4) (mG bG bC cG) (mC bC cC cG) from h1_)
  have HE4 := Aside0.mk (show EdR wf w.heap.size (.slice V3 r4 v3) (.slice V4 s4 v4) (mG aG aC (mG bG bC cG)) (mC aC (mC bC cC cG) (mG bG bC cG)) from h2_)
  have HX5 := Aside0.mk (show wf.heap[g8]? = some (.cells zE 31 (0, 0)) from h3_)
  have HG5 := Aside0.mk (show W1.heap.size ≤ g8 from h4_)
  clear h0_ h1_ h2_ h3_ h4_
  have o5_0 : wf.cell? ⟨g8, 0, none⟩ = some (.int .i64 0) := (blk_cell HX5.out 0).trans rfl
  have o5_1 : wf.cell? ⟨g8, 1, none⟩ = some (.int .i64 0) := (blk_cell HX5.out 1).trans rfl
  have o5_2 : wf.cell? ⟨g8, 2, none⟩ = some (.int .u64 0) := (blk_cell HX5.out 2).trans rfl
  have o5_3 : wf.cell? ⟨g8, 3, none⟩ = some (.slice none 0 0) := (blk_cell HX5.out 3).trans rfl
  have o5_4 : wf.cell? ⟨g8, 4, none⟩ = some (.slice none 0 0) := (blk_cell HX5.out 4).trans rfl
  have q5_0 := blk_frozen HX5.out 0
  have q5_1 := blk_frozen HX5.out 1
  have q5_2 := blk_frozen HX5.out 2
  have q5_3 := blk_frozen HX5.out 3
  have q5_4 := blk_frozen HX5.out 4
  have hHeld := hS_
  refine norm_ (a' := ?_) ?_ ?_
  rotate_left
  · simp only [putAll, Act.put, List.setIfInBounds_toArray, List.set_cons_zero, List.set_cons_succ]
    rfl
  refine last_ (i := 6) (N := none) #[true, true, true, true, true, true, true] rfl rfl (by kernel_rfl) (by decide) (fun K hK => ?_)
  refine skip_ (w1 := ?_) (by rfl) rfl ?_ ?_
  rotate_left
  · go_simp
    rfl
  refine hK.out _ _ ?_
  clear hK K
  refine done_ (by kernel_rfl) ?_
  clear cA0 cA1 cA2 cA3 cA4 cB0 cB1 cB2 cB3 cB4 cC0 cC1 cC2 cC3 cC4 hHeld hS_ o5_0 o5_1 o5_2 o5_3 o5_4 q5_0 q5_1 q5_2 q5_3 q5_4
  have KV := Aside0.mk (toldW_blk (x0 := x0) (x1 := x1) (x2 := x2) (vG := .slice V3 r4 v3) (vC := .slice V4 s4 v4) HX5.out)
  have EV := Aside0.mk (HE4.out.told HX5.out x0 x1 x2 (.slice V3 r4 v3) (.slice V4 s4 v4))
  have EX := Aside0.mk ((EX.out.below HBW.out).told HX5.out x0 x1 x2 (.slice V3 r4 v3) (.slice V4 s4 v4))
  have lA := blk_lt KA.out
  have lB := blk_lt KB.out
  have lC := blk_lt KC.out
  have lX := blk_lt KX.out
  have lg : W1.heap.size ≤ g8 := HG5.out
  have hwg : w.heap.size ≤ g8 := by have := HB.out.size; omega
  have KX := Aside0.mk (told_far (blk_below KX.out HBW.out) (show g7 ≠ g8 by omega) x0 x1 x2 (.slice V3 r4 v3) (.slice V4 s4 v4))
  have KA := Aside0.mk (told_far (blk_below KA.out HBW.out) (show w.heap.size ≠ g8 by omega) x0 x1 x2 (.slice V3 r4 v3) (.slice V4 s4 v4))
  have KB := Aside0.mk (told_far (blk_below KB.out HBW.out) (show w.heap.size + 1 ≠ g8 by omega) x0 x1 x2 (.slice V3 r4 v3) (.slice V4 s4 v4))
  have KC := Aside0.mk (told_far (blk_below KC.out HBW.out) (show w.heap.size + 1 + 1 ≠ g8 by omega) x0 x1 x2 (.slice V3 r4 v3) (.slice V4 s4 v4))
  have HB := Aside0.mk (told_below (below_step HB.out HBW.out) hwg x0 x1 x2 (.slice V3 r4 v3) (.slice V4 s4 v4))
  obtain ⟨W2, hW2⟩ : ∃ W2, toldW wf g8 x0 x1 x2 (.slice V3 r4 v3) (.slice V4 s4 v4) = W2 := ⟨_, rfl⟩
  rw [hW2] at KX KV EX EV KA KB KC HB
  unfold toldW at hW2
  rw [hW2]
  clear hW2 HE3 HE4 HX5 HG5 HBW lA lB lC lX lg hwg M3 M4
  go_wp2_with fail
  (with_reducible refine (M5.out _).mono ?_)
  rintro e w5 ⟨T3, t3, T4, t4, rfl, hr, hb⟩
  have KA := Aside0.mk (blk_below KA.out hb)
  have KB := Aside0.mk (blk_below KB.out hb)
  have KC := Aside0.mk (blk_below KC.out hb)
  have KX := Aside0.mk (blk_below KX.out hb)
  have KV := Aside0.mk (blk_below KV.out hb)
  have EX := Aside0.mk (EX.out.below hb)
  have EV := Aside0.mk (EV.out.below hb)
  have HB := Aside0.mk (below_step HB.out hb)
  clear hr hb M5
  have K9 := Aside0.mk (blk_new w5 (.cells (cE 3 4 0 (.slice T3 0 t3) (.slice T4 0 t4)) 31))
  have KAz := Aside0.mk (blk_below KA.out (below_alloc (Below.refl _ _) (.cells (cE 3 4 0 (.slice T3 0 t3) (.slice T4 0 t4)) 31)))
  have KBz := Aside0.mk (blk_below KB.out (below_alloc (Below.refl _ _) (.cells (cE 3 4 0 (.slice T3 0 t3) (.slice T4 0 t4)) 31)))
  have KCz := Aside0.mk (blk_below KC.out (below_alloc (Below.refl _ _) (.cells (cE 3 4 0 (.slice T3 0 t3) (.slice T4 0 t4)) 31)))
  have KXz := Aside0.mk (blk_below KX.out (below_alloc (Below.refl _ _) (.cells (cE 3 4 0 (.slice T3 0 t3) (.slice T4 0 t4)) 31)))
  have KVz := Aside0.mk (blk_below KV.out (below_alloc (Below.refl _ _) (.cells (cE 3 4 0 (.slice T3 0 t3) (.slice T4 0 t4)) 31)))
  have cA0 := blk_cell KA.out 0
  have cA1 := blk_cell KA.out 1
  have cA2 := blk_cell KA.out 2
  have cA3 := blk_cell KA.out 3
  have cA4 := blk_cell KA.out 4
  have cB0 := blk_cell KB.out 0
  have cB1 := blk_cell KB.out 1
  have cB2 := blk_cell KB.out 2
  have cB3 := blk_cell KB.out 3
  have cB4 := blk_cell KB.out 4
  have cC0 := blk_cell KC.out 0
  have cC1 := blk_cell KC.out 1
  have cC2 := blk_cell KC.out 2
  have cC3 := blk_cell KC.out 3
  have cC4 := blk_cell KC.out 4
  have dA0 := blk_cell KAz.out 0
  have dA1 := blk_cell KAz.out 1
  have dA2 := blk_cell KAz.out 2
  have dA3 := blk_cell KAz.out 3
  have dA4 := blk_cell KAz.out 4
  have dB0 := blk_cell KBz.out 0
  have dB1 := blk_cell KBz.out 1
  have dB2 := blk_cell KBz.out 2
  have dB3 := blk_cell KBz.out 3
  have dB4 := blk_cell KBz.out 4
  have dC0 := blk_cell KCz.out 0
  have dC1 := blk_cell KCz.out 1
  have dC2 := blk_cell KCz.out 2
  have dC3 := blk_cell KCz.out 3
  have dC4 := blk_cell KCz.out 4
  have t9 := blk_cell K9.out 0
  have t10 := blk_cell K9.out 1
  go_wp2_with fail
  clear cA0 cA1 cA2 cA3 cA4 cB0 cB1 cB2 cB3 cB4 cC0 cC1 cC2 cC3 cC4 dA0 dA1 dA2 dA3 dA4 dB0 dB1 dB2 dB3 dB4 dC0 dC1 dC2 dC3 dC4 t9 t10
  have HK := Aside0.mk (blk_new (w5.alloc (.cells (cE 3 4 0 (.slice T3 0 t3) (.slice T4 0 t4)) 31)) (.cells #[.int .i64 a0, .int .i64 a1, .int .u64 a2, .slice A3 n c3, .slice A4 m c4, .int .i64 b0, .int .i64 b1, .int .u64 b2, .slice B3 p d3, .slice B4 q d4, .int .i64 k0, .int .i64 k1, .int .u64 k2, .slice C3 u e3, .slice C4 v e4] 31))
  rw [World.size_alloc] at HK
  have HB5 := Aside0.mk (show Below w5.heap.size w5 ((w5.alloc (.cells (cE 3 4 0 (.slice T3 0 t3) (.slice T4 0 t4)) 31)).alloc (.cells #[.int .i64 a0, .int .i64 a1, .int .u64 a2, .slice A3 n c3, .slice A4 m c4, .int .i64 b0, .int .i64 b1, .int .u64 b2, .slice B3 p d3, .slice B4 q d4, .int .i64 k0, .int .i64 k1, .int .u64 k2, .slice C3 u e3, .slice C4 v e4] 31)) from below_alloc (below_alloc (Below.refl _ _) _) _)
  generalize (w5.alloc (.cells (cE 3 4 0 (.slice T3 0 t3) (.slice T4 0 t4)) 31)).alloc (.cells #[.int .i64 a0, .int .i64 a1, .int .u64 a2, .slice A3 n c3, .slice A4 m c4, .int .i64 b0, .int .i64 b1, .int .u64 b2, .slice B3 p d3, .slice B4 q d4, .int .i64 k0, .int .i64 k1, .int .u64 k2, .slice C3 u e3, .slice C4 v e4] 31) = W3 at HK HB5 ⊢
  have HB3 := Aside0.mk (below_step HB.out HB5.out)
  have HAP : Calls Try.prog 13 #[.slice (some ⟨w5.heap.size + 1, 0, none⟩) 3 3] W3 (ApPost [(a0, a1, a2, aG, aC), (b0, b1, b2, bG, bC), (k0, k1, k2, cG, cC)] W3) := apart_calls (some ⟨w5.heap.size + 1, 0, none⟩) 3 [(a0, a1, a2, aG, aC), (b0, b1, b2, bG, bC), (k0, k1, k2, cG, cC)] W3 (row3 HK.out (HA.out W3 HB3.out) (HBb.out W3 HB3.out) (HCc.out W3 HB3.out)) (Nat.le_refl 3)
    (fun e he => by
      rcases List.mem_cons.1 he with rfl | he
      · exact HLEN.out.1.1
      rcases List.mem_cons.1 he with rfl | he
      · exact HLEN.out.2.1.1
      rcases List.mem_cons.1 he with rfl | he
      · exact HLEN.out.2.2.1
      · cases he)
    (fun e he => by
      rcases List.mem_cons.1 he with rfl | he
      · exact HLEN.out.1.2
      rcases List.mem_cons.1 he with rfl | he
      · exact HLEN.out.2.1.2
      rcases List.mem_cons.1 he with rfl | he
      · exact HLEN.out.2.2.2
      · cases he)
  (with_reducible refine HAP.mono ?_)
  clear HAP
  rintro e w7 ⟨r, rfl, hap, hb⟩
  have HB7 := Aside0.mk (below_step HB5.out hb)
  have HB := Aside0.mk (below_step HB3.out hb)
  have KX := Aside0.mk (blk_below KX.out HB7.out)
  have KV := Aside0.mk (blk_below KV.out HB7.out)
  have EX := Aside0.mk (EX.out.below HB7.out)
  have EV := Aside0.mk (EV.out.below HB7.out)
  clear hb HK HB5 HB3 HB7 KA KB KC KAz KBz KCz KXz KVz K9
  cases r with
  | false =>
    clear hap
    go_wp2
    go_ret
    exact ⟨rfl, HB.out⟩
  | true =>
    have hG := apart_G (show ((aG ++ (bG ++ (cG ++ []))).map plG).Nodup from (hap rfl).1)
    have hC := apart_C (show (aC.map numC ++ (bC.map numC ++ (cC.map numC ++ []))).Nodup from (hap rfl).2)
    have e1 := three_G aG bG cG aC bC hG
    have e2 := three_C aC bC cC bG cG hC
    have EV := Aside0.mk (show EdR w7 w.heap.size (.slice V3 r4 v3) (.slice V4 s4 v4) (mG (mG aG aC bG) (mC aC bC bG) cG) (mC (mC aC bC bG) cC cG) by rw [e1, e2]; exact EV.out)
    obtain rfl : r2 = r4 := by rw [← HR2.out.1, ← HR4.out.1, e1]
    obtain rfl : s2 = s4 := by rw [← HR2.out.2, ← HR4.out.2, e2]
    clear hap hG hC e1 e2
    have cX0 := blk_cell KX.out 0
    have cX1 := blk_cell KX.out 1
    have cX2 := blk_cell KX.out 2
    have cX3 := blk_cell KX.out 3
    have cX4 := blk_cell KX.out 4
    have cV0 := blk_cell KV.out 0
    have cV1 := blk_cell KV.out 1
    have cV2 := blk_cell KV.out 2
    have cV3 := blk_cell KV.out 3
    have cV4 := blk_cell KV.out 4
    go_wp2_with fail
    (with_reducible refine (same15 x0 x1 x2 Z3 z3 (mG (mG aG aC bG) (mC aC bC bG) cG) Z4 z4 (mC (mC aC bC bG) cC cG) V3 v3 V4 v4 r2 s2 HR2.out.1 HR2.out.2 HBD.out.1 HBD.out.2 _ EX.out.c3.1 EX.out.c3.2 EX.out.c4.1 EX.out.c4.2 EV.out.c3.1 EV.out.c3.2 EV.out.c4.1 EV.out.c4.2).mono ?_)
    rintro e w8 ⟨rfl, hb⟩
    have HB := Aside0.mk (below_step HB.out hb)
    clear hb
    go_wp2
    go_ret
    exact ⟨rfl, HB.out⟩

end Go.Proofs.Ytppldgbgdgeegaa.G

/- Contracts typed by hand: the law EditThree, for its second form -/
namespace Go.Proofs.Ytppldgbgdgeegaa.G
open Go.RowKit Go.Proofs.YtppldgbgdgeegaaW.PrintWords Go.Proofs.YtppldgbgdgeegaaW.PrintLast Go.Proofs.YtppldgbgdgeegaaW.PrintMore
attribute [local go_sem] max2_int min2_int max_two min_two max_three min_three max_four min_four
set_option linter.unusedVariables false
set_option linter.unusedSimpArgs false

/-! the law EditThree, for its second form -/
open Go.WideMaps Go.WideElems
theorem EditThree_upto (w : World) (cs0 : Array Value) (x0 : Int × Int × Int × List S45 × List S43) (hK0 : (Kd.pair (Kd.int .i64) (Kd.pair (Kd.int .i64) (Kd.pair (Kd.int .u64) (Kd.pair (Kd.slice 45 k45) (Kd.slice 43 k43))))).K w x0 cs0.toList) (hg0 : (Lit.int .i64 x0.1).wf = true ∧ (Lit.int .i64 x0.2.1).wf = true ∧ (Lit.int .u64 x0.2.2.1).wf = true ∧ (∀ x ∈ x0.2.2.2.1, (Lit.int .i64 x.f0).wf = true ∧ (Lit.int .i64 x.f1).wf = true) ∧ (∀ x ∈ x0.2.2.2.2, (Lit.int .i64 x.f0).wf = true ∧ ((Lit.int .i64 x.f1.f0).wf = true ∧ (Lit.int .i64 x.f1.f1).wf = true ∧ x.f1.f2.size ≤ maxLen ∧ x.f1.f3.size ≤ maxLen ∧ (Lit.int .u64 x.f1.f4).wf = true ∧ (Lit.int .u64 x.f1.f5).wf = true)))
    (cs1 : Array Value) (x1 : Int × Int × Int × List S45 × List S43) (hK1 : (Kd.pair (Kd.int .i64) (Kd.pair (Kd.int .i64) (Kd.pair (Kd.int .u64) (Kd.pair (Kd.slice 45 k45) (Kd.slice 43 k43))))).K w x1 cs1.toList) (hg1 : (Lit.int .i64 x1.1).wf = true ∧ (Lit.int .i64 x1.2.1).wf = true ∧ (Lit.int .u64 x1.2.2.1).wf = true ∧ (∀ x ∈ x1.2.2.2.1, (Lit.int .i64 x.f0).wf = true ∧ (Lit.int .i64 x.f1).wf = true) ∧ (∀ x ∈ x1.2.2.2.2, (Lit.int .i64 x.f0).wf = true ∧ ((Lit.int .i64 x.f1.f0).wf = true ∧ (Lit.int .i64 x.f1.f1).wf = true ∧ x.f1.f2.size ≤ maxLen ∧ x.f1.f3.size ≤ maxLen ∧ (Lit.int .u64 x.f1.f4).wf = true ∧ (Lit.int .u64 x.f1.f5).wf = true)))
    (cs2 : Array Value) (x2 : Int × Int × Int × List S45 × List S43) (hK2 : (Kd.pair (Kd.int .i64) (Kd.pair (Kd.int .i64) (Kd.pair (Kd.int .u64) (Kd.pair (Kd.slice 45 k45) (Kd.slice 43 k43))))).K w x2 cs2.toList) (hg2 : (Lit.int .i64 x2.1).wf = true ∧ (Lit.int .i64 x2.2.1).wf = true ∧ (Lit.int .u64 x2.2.2.1).wf = true ∧ (∀ x ∈ x2.2.2.2.1, (Lit.int .i64 x.f0).wf = true ∧ (Lit.int .i64 x.f1).wf = true) ∧ (∀ x ∈ x2.2.2.2.2, (Lit.int .i64 x.f0).wf = true ∧ ((Lit.int .i64 x.f1.f0).wf = true ∧ (Lit.int .i64 x.f1.f1).wf = true ∧ x.f1.f2.size ≤ maxLen ∧ x.f1.f3.size ≤ maxLen ∧ (Lit.int .u64 x.f1.f4).wf = true ∧ (Lit.int .u64 x.f1.f5).wf = true)))
    (hbulk : (1 + 1 + 1 + (sumBulk (fun _ : S45 => 1 + 1 + 1) x0.2.2.2.1 + 1) + (sumBulk (fun x : S43 => 1 + (1 + 1 + (x.f1.f2.size + 1) + (x.f1.f3.size + 1) + 1 + 1 + 1) + 1) x0.2.2.2.2 + 1) + 1) + (1 + 1 + 1 + (sumBulk (fun _ : S45 => 1 + 1 + 1) x1.2.2.2.1 + 1) + (sumBulk (fun x : S43 => 1 + (1 + 1 + (x.f1.f2.size + 1) + (x.f1.f3.size + 1) + 1 + 1 + 1) + 1) x1.2.2.2.2 + 1) + 1) + (1 + 1 + 1 + (sumBulk (fun _ : S45 => 1 + 1 + 1) x2.2.2.2.1 + 1) + (sumBulk (fun x : S43 => 1 + (1 + 1 + (x.f1.f2.size + 1) + (x.f1.f3.size + 1) + 1 + 1 + 1) + 1) x2.2.2.2.2 + 1) + 1) ≤ 1048576) :
    Calls Try.prog 5 #[.agg cs0, .agg cs1, .agg cs2] w fun e w' => e = .returned (.bool true) ∧ Below w.heap.size w w' := by
  obtain ⟨A3, c3, A4, c4, rfl, h3, hc3, h4, hc4⟩ := open_e15 hK0
  obtain ⟨B3, d3, B4, d4, rfl, g3, gc3, g4, gc4⟩ := open_e15 hK1
  obtain ⟨C3, e3, C4, e4, rfl, i3, ic3, i4, ic4⟩ := open_e15 hK2
  have l1 := sumBulk_len15 (fun _ : S45 => 1 + 1 + 1) (fun _ => by omega) x0.2.2.2.1
  have l2 := sumBulk_len15 (fun x : S43 => 1 + (1 + 1 + (x.f1.f2.size + 1) + (x.f1.f3.size + 1) + 1 + 1 + 1) + 1) (fun _ => by omega) x0.2.2.2.2
  have l3 := sumBulk_len15 (fun _ : S45 => 1 + 1 + 1) (fun _ => by omega) x1.2.2.2.1
  have l4 := sumBulk_len15 (fun x : S43 => 1 + (1 + 1 + (x.f1.f2.size + 1) + (x.f1.f3.size + 1) + 1 + 1 + 1) + 1) (fun _ => by omega) x1.2.2.2.2
  have l5 := sumBulk_len15 (fun _ : S45 => 1 + 1 + 1) (fun _ => by omega) x2.2.2.2.1
  have l6 := sumBulk_len15 (fun x : S43 => 1 + (1 + 1 + (x.f1.f2.size + 1) + (x.f1.f3.size + 1) + 1 + 1 + 1) + 1) (fun _ => by omega) x2.2.2.2.2
  exact three_calls _ _ _ A3 c3 _ A4 c4 _ _ _ _ B3 d3 _ B4 d4 _ _ _ _ C3 e3 _ C4 e4 _ _ _ _ _ _ _ rfl rfl rfl rfl rfl rfl (by omega) (fun x hx => ⟨(hg0.2.2.2.2 x hx).1, (hg0.2.2.2.2 x hx).2.1⟩) (fun x hx => hg1.2.2.2.1 x hx) (fun x hx => ⟨(hg1.2.2.2.2 x hx).1, (hg1.2.2.2.2 x hx).2.1⟩) (fun x hx => hg2.2.2.2.1 x hx) w h3 hc3 h4 hc4 g3 gc3 g4 gc4 i3 ic3 i4 ic4

end Go.Proofs.Ytppldgbgdgeegaa.G
