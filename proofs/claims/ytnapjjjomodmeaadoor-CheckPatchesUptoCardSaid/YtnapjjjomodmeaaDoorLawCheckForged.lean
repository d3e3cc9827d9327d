/- Contracts typed by hand: CheckForged and CheckPatches hold of every input within the form's reach -/
import Derived.Test.YtnapjjjomodmeaaDoorProg
import Derived.Below
import Derived.Deep.Draws
import Derived.Deep.AppendLies
import Derived.Maps.AppendAt
import Derived.OwnWalk
import Derived.Laws.BytesArg
import Derived.Laws.MakeOwn
import Derived.Laws.OwnMore
import Derived.Deep.OwnRows
import Derived.Tactics
import Derived.Lib.ConvBytes
import Derived.Laws.Slices
import Derived.WalkKit
import Derived.KernelRfl
import Derived.RowKit3
import Derived.Deep.LoopGhost
import Derived.Deep.QuietTactic
import Derived.BigQuiet
import Derived.WideLaws
import Derived.Deep.DeepCutAuto
import Derived.Deep.CutBlock
import Derived.Deep.RegionHeld3
import Derived.Laws.Rows
import Derived.Lib.AppendStr
import Derived.ArgAppend
import Derived.Laws.IdiomCopy
import Derived.OrdersHeld
import Derived.Laws.BitsLemmas
import Derived.RowKit
import Derived.Test.YtnapjjjomodmeaaDoorWWords
import Derived.Test.YtnapjjjomodmeaaDoorWLast
import Derived.Test.YtnapjjjomodmeaaDoorWTab
import Derived.Test.YtnapjjjomodmeaaDoorWFour
import Derived.Test.YtnapjjjomodmeaaDoorWQPut
import Derived.Test.YtnapjjjomodmeaaDoorWApart
import Derived.Test.YtnapjjjomodmeaaDoorWArr
import Derived.Test.YtnapjjjomodmeaaDoorWZeros
import Derived.Test.YtnapjjjomodmeaaDoorWFoot
import Derived.Test.YtnapjjjomodmeaaDoorWKept
import Derived.Test.YtnapjjjomodmeaaDoorWShare
import Derived.Test.YtnapjjjomodmeaaDoorWN
import Derived.Test.YtnapjjjomodmeaaDoorWFootNe
import Derived.Test.YtnapjjjomodmeaaDoorWAt
import Derived.Test.YtnapjjjomodmeaaDoorWEqStruct
import Derived.Test.YtnapjjjomodmeaaDoorWRepsOne
import Derived.Test.YtnapjjjomodmeaaDoorWInv
import Derived.Test.YtnapjjjomodmeaaDoorWInvWords
import Derived.Test.YtnapjjjomodmeaaDoorWGuard
import Derived.Test.YtnapjjjomodmeaaDoorWNEv
import Derived.Test.YtnapjjjomodmeaaDoorWMore
import Derived.Test.YtnapjjjomodmeaaDoorLawCheckPure
import Derived.Test.YtnapjjjomodmeaaDoorOpens
import Derived.Lib.Strings
import Derived.Test.YtnapjjjomodmeaaDoorGx17
namespace Go.Proofs.YtnapjjjomodmeaaDoor.G
open Go.RowKit Go.Proofs.YtnapjjjomodmeaaDoorW.PrintWords Go.Proofs.YtnapjjjomodmeaaDoorW.PrintLast Go.Proofs.YtnapjjjomodmeaaDoorW.PrintMore
attribute [local go_sem] max2_int min2_int max_two min_two max_three min_three max_four min_four
set_option linter.unusedVariables false
set_option linter.unusedSimpArgs false

/-! CheckForged and CheckPatches hold of every input within the form's reach -/
theorem strOf_inj {a b : List Int} (ha : Byt a) (hb : Byt b) (h : (strOfNums a).toList = (strOfNums b).toList) : a = b := by
  rw [Lib.toList_data, Lib.toList_data] at h
  have h2 : a.map (fun x => UInt8.ofNat x.toNat) = b.map (fun x => UInt8.ofNat x.toNat) := h
  have hl : a.length = b.length := by simpa using congrArg List.length h2
  apply List.ext_getElem hl
  intro i h3 h4
  have h5 : (a.map (fun x => UInt8.ofNat x.toNat))[i]? = (b.map (fun x => UInt8.ofNat x.toNat))[i]? := by rw [h2]
  rw [List.getElem?_map, List.getElem?_map, List.getElem?_eq_getElem h3, List.getElem?_eq_getElem h4] at h5
  have h6 := congrArg UInt8.toNat (Option.some.inj h5)
  have q1 := ha _ (List.getElem_mem h3)
  have q2 := hb _ (List.getElem_mem h4)
  simp only [UInt8.toNat_ofNat'] at h6
  omega
theorem CheckForged_pure (l : List Int) (t o : Nat) (hb : Byt l) (ht : t < 4294967296) (ho : o < 4294967296) (hl : l.length ≤ 1048576) : ∃ k, morainelaw02_CheckForged.f k l (t : Int) (o : Int) = some true := by
  obtain ⟨K, hK⟩ : ∃ K : Nat, 2000000 ≤ K := ⟨_, Nat.le_refl _⟩
  have hs := ext_lt (s := 0) (l := l) (by omega) hb
  have hq : [(o : Int) % 256, ((o : Int) / 256) % 256, ((o : Int) / 65536) % 256, ((o : Int) / 16777216) % 256] = four o := rfl
  have hp := pat_lt hs ht
  have fl : ∀ x, (four x).length = 4 := fun x => rfl
  have e1 := sum_eq K l hb (by omega) (by omega)
  have e2 := (patch_eq K (ext 0 l) t hs ht (by omega)).1
  have e3 := sum_eq K (l ++ four (pat (ext 0 l) t)) (hb.append (four_byt _)) (by rw [List.length_append, fl]; omega) (by rw [List.length_append, fl]; omega)
  have e4 := sum_eq K (l ++ four o) (hb.append (four_byt _)) (by rw [List.length_append, fl]; omega) (by rw [List.length_append, fl]; omega)
  rw [ext_append, pat_does _ _ hs ht] at e3
  rw [ext_append] at e4
  have c1 : ([] : List Int).length + l.length < 140737488355328 := by simp; omega
  have c2 : l.length + (four (pat (ext 0 l) t)).length < 140737488355328 := by rw [fl]; omega
  have c3 : l.length + (four o).length < 140737488355328 := by rw [fl]; omega
  have c4 : ((four (pat (ext 0 l) t)).length : Int) = 4 := rfl
  refine ⟨K, ?_⟩
  unfold morainelaw02_CheckForged.f
  rw [works_eq K (by omega), Option.bind_some, if_pos rfl, e1, Option.bind_some, e2, Option.bind_some, if_pos c4, hq, Option.bind_some, Option.bind_some, if_pos c1, Option.bind_some, List.nil_append, if_pos c2, e3, Option.bind_some, if_pos rfl, Option.bind_some, if_pos c1, Option.bind_some, List.nil_append, if_pos c3, e4, Option.bind_some]
  congr 1
  rw [beq_iff_eq, Bool.eq_iff_iff]
  simp only [beq_iff_eq]
  constructor
  · intro h
    have h2 : ext (ext 0 l) (four o) = ext (ext 0 l) (four (pat (ext 0 l) t)) := by rw [pat_does _ _ hs ht]; omega
    rw [four_tells _ _ _ hs ho hp h2]
  · intro h
    have h2 := four_inj hp ho (strOf_inj (four_byt _) (four_byt _) h)
    rw [← h2, pat_does _ _ hs ht]
theorem CheckForged_upto (w : World) (A0 : Option Addr) (c0 : Nat) (l0 : List Int) (hc0 : l0.length ≤ c0) (hr0 : Kd.C (Kd.int .u8) w A0 l0.length l0) (hg0 : ∀ x ∈ l0, (Lit.int .u8 x).wf = true) (a1 : Int) (hg1 : (Lit.int .u32 a1).wf = true) (a2 : Int) (hg2 : (Lit.int .u32 a2).wf = true)
    (hbulk : (sumBulk (fun _ => 1) l0 + 1) + (1 + 1) ≤ 1048576) (hTab : TabAt w) :
    Calls Tryd.prog 7 #[.slice A0 l0.length c0, .int .u32 a1, .int .u32 a2] w fun e w' => e = .returned (.bool true) ∧ Below w.heap.size w w' := by
  have n0 := sumBulk_len (fun _ => 1) (fun _ => Nat.le_refl 1) l0
  (try simp only [] at hbulk)
  have q1 := u32_range hg1
  have q2 := u32_range hg2
  obtain ⟨t, rfl⟩ := Int.eq_ofNat_of_zero_le q1.1
  obtain ⟨o, rfl⟩ := Int.eq_ofNat_of_zero_le q2.1
  obtain ⟨k, hk⟩ := CheckForged_pure l0 t o (byt_of_wf hg0) (by omega) (by omega) (by omega)
  exact morainelaw02_CheckForged.calls k A0 c0 l0 _ _ true w hr0 hc0 hk hTab

end Go.Proofs.YtnapjjjomodmeaaDoor.G
