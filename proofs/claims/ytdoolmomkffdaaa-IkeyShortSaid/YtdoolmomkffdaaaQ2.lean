/- Contracts of functions and plain laws, several texts of the session put together by its program. -/
import Derived.WalkLawsBesides
import Derived.Test.YtdoolmomkffdaaaQ0
import Derived.Test.YtdoolmomkffdaaaQ1

/- Printed by the session's program over the kit's print, out of the translation: functions as plain Lean functions, and the proofs that the calls come to them. -/
namespace Go.Proofs.Ytdoolmomkffdaaa.G
open Go.RowKit Go.Proofs.YtdoolmomkffdaaaW.PrintWords Go.Proofs.YtdoolmomkffdaaaW.PrintLast Go.Proofs.YtdoolmomkffdaaaW.PrintMore
attribute [local go_sem] max2_int min2_int max_two min_two max_three min_three max_four min_four   -- for this text's walks alone
set_option linter.unusedVariables false
set_option linter.unusedSimpArgs false

/-! ### morainelaw03_IkeyShort: function 9 -/
def morainelaw03_IkeyShort.f (k : Nat) (a0 : ByteArray) (a1 : ByteArray) (a2 : ByteArray) : Option (Bool) := (ikey_Between.f k a0 a1).bind fun t236 => (if ((Op.bytesLess a0.toList a1.toList) = true) then (if (Op.bytesLess t236.toList a0.toList) = true then (some false) else (if ((Op.bytesLess t236.toList a1.toList) = true) then (if (t236.size : Int) > (a0.size : Int) then (some false) else (if ((Op.bytesLess a2.toList a0.toList) = true) then (some true) else (if ((Op.bytesLess a2.toList a1.toList) = true) then (if (a2.size : Int) > (t236.size : Int) then (some true) else (if (a2.size : Int) = (t236.size : Int) then (some (!(Op.bytesLess a2.toList t236.toList))) else (some false))) else (some true)))) else (some false))) else (some (t236.toList == a0.toList)))
theorem morainelaw03_IkeyShort.mono : ∀ a0 a1 a2 k, LeO (morainelaw03_IkeyShort.f k a0 a1 a2) (morainelaw03_IkeyShort.f (k + 1) a0 a1 a2) := by
  intro a0 a1 a2 k
  unfold morainelaw03_IkeyShort.f
  repeat' first
      | (with_reducible exact ikey_Between.mono _ _ _)
      | (with_reducible exact LeO.refl _)
      | (with_reducible exact LeO.none _)
      | (with_reducible refine LeO.ite ?_ ?_)
      | (with_reducible refine LeO.bind ?_ (fun _ => ?_))
      | exact ikey_Between.mono _ _ _
      | exact LeO.none _
      | refine LeO.ite ?_ ?_
      | refine LeO.bind ?_ (fun _ => ?_)
set_option maxHeartbeats 8000000 in
set_option maxRecDepth 100000 in
theorem morainelaw03_IkeyShort.calls (k : Nat) (a0 : ByteArray) (a1 : ByteArray) (a2 : ByteArray) (r : Bool) (w : World) (h : morainelaw03_IkeyShort.f k a0 a1 a2 = some r) :
    Calls Try.prog 9 #[.string a0, .string a1, .string a2] w fun e w' => e = .returned (.bool r) ∧ Below w.heap.size w w' := by
  have HB := Aside0.mk (Below.refl w.heap.size w)
  have H : ((ikey_Between.f k a0 a1).bind fun t236 => (if ((Op.bytesLess a0.toList a1.toList) = true) then (if (Op.bytesLess t236.toList a0.toList) = true then (some false) else (if ((Op.bytesLess t236.toList a1.toList) = true) then (if (t236.size : Int) > (a0.size : Int) then (some false) else (if ((Op.bytesLess a2.toList a0.toList) = true) then (some true) else (if ((Op.bytesLess a2.toList a1.toList) = true) then (if (a2.size : Int) > (t236.size : Int) then (some true) else (if (a2.size : Int) = (t236.size : Int) then (some (!(Op.bytesLess a2.toList t236.toList))) else (some false))) else (some true)))) else (some false))) else (some (t236.toList == a0.toList)))) = some r := h
  clear h
  replace H := Option.bind_eq_some_iff.mp H
  obtain ⟨t236, A40, H⟩ := H
  replace H : (if ((Op.bytesLess a0.toList a1.toList) = true) then (if (Op.bytesLess t236.toList a0.toList) = true then (some false) else (if ((Op.bytesLess t236.toList a1.toList) = true) then (if (t236.size : Int) > (a0.size : Int) then (some false) else (if ((Op.bytesLess a2.toList a0.toList) = true) then (some true) else (if ((Op.bytesLess a2.toList a1.toList) = true) then (if (a2.size : Int) > (t236.size : Int) then (some true) else (if (a2.size : Int) = (t236.size : Int) then (some (!(Op.bytesLess a2.toList t236.toList))) else (some false))) else (some true)))) else (some false))) else (some (t236.toList == a0.toList))) = some r := H
  have A4 := Aside0.mk A40
  clear A40
  by_cases c5 : ((Op.bytesLess a0.toList a1.toList) = true)
  · rw [if_pos c5] at H
    have c5b0 : (Op.bytesLess a0.toList a1.toList) = true := c5
    clear c5
    by_cases c6 : (Op.bytesLess t236.toList a0.toList) = true
    · rw [if_pos c6] at H
      have c6b0 : (Op.bytesLess t236.toList a0.toList) = true := c6
      clear c6
      obtain rfl := Option.some.inj H
      go_enter Try.func9, Try.ntmps9
      go_wp2_with (first | ((with_reducible refine gate_callee (f := 27) rfl ?_); refine goesL_ (some 10) rfl rfl Try.func27 (by kernel_rfl) rfl #[.string a0, .string a1] rfl (by (try simp only [List.map_toArray, List.map_cons, List.map_nil]); first | done | rfl | (simp only [List.length_drop, List.length_take]; rfl)) ?_; (with_reducible refine (ikey_Between.calls k a0 a1 t236 _ A4.out).mono ?_); rintro e w7 ⟨rfl, hb⟩; refine ⟨_, rfl, ?_⟩; have n0_ := Aside0.mk (below_step (by repeat (first | (with_reducible first | exact HB.out | apply below_alloc | apply pw_below_drewN | apply below_drew1) | exact HB.out)) hb); clear HB; have HB := n0_; clear n0_; (try clear hb); (try clear hb2); (try clear hk); (try clear hi)))
      go_ret
      exact ⟨by first | rfl | (simp [errW_none, errW_some] <;> rfl) | (simp [*, errW_none, errW_some] <;> rfl), by repeat (first | (with_reducible first | exact HB.out | apply below_alloc | apply pw_below_drewN | apply below_drew1) | exact HB.out)⟩
    · rw [if_neg c6] at H
      have c6b0 : (Op.bytesLess t236.toList a0.toList) = false := by simpa using c6
      clear c6
      by_cases c8 : ((Op.bytesLess t236.toList a1.toList) = true)
      · rw [if_pos c8] at H
        have c8b0 : (Op.bytesLess t236.toList a1.toList) = true := c8
        clear c8
        by_cases c9 : (t236.size : Int) > (a0.size : Int)
        · rw [if_pos c9] at H
          have c9b0 : decide ((a0.size : Int) < (t236.size : Int)) = true := decide_eq_true c9
          have c9b1 : decide (a0.size < t236.size) = true := decide_eq_true (Int.ofNat_lt.mp c9)
          clear c9
          obtain rfl := Option.some.inj H
          go_enter Try.func9, Try.ntmps9
          go_wp2_with (first | ((with_reducible refine gate_callee (f := 27) rfl ?_); refine goesL_ (some 10) rfl rfl Try.func27 (by kernel_rfl) rfl #[.string a0, .string a1] rfl (by (try simp only [List.map_toArray, List.map_cons, List.map_nil]); first | done | rfl | (simp only [List.length_drop, List.length_take]; rfl)) ?_; (with_reducible refine (ikey_Between.calls k a0 a1 t236 _ A4.out).mono ?_); rintro e w10 ⟨rfl, hb⟩; refine ⟨_, rfl, ?_⟩; have n0_ := Aside0.mk (below_step (by repeat (first | (with_reducible first | exact HB.out | apply below_alloc | apply pw_below_drewN | apply below_drew1) | exact HB.out)) hb); clear HB; have HB := n0_; clear n0_; (try clear hb); (try clear hb2); (try clear hk); (try clear hi)))
          go_ret
          exact ⟨by first | rfl | (simp [errW_none, errW_some] <;> rfl) | (simp [*, errW_none, errW_some] <;> rfl), by repeat (first | (with_reducible first | exact HB.out | apply below_alloc | apply pw_below_drewN | apply below_drew1) | exact HB.out)⟩
        · rw [if_neg c9] at H
          have c9b0 : decide ((a0.size : Int) < (t236.size : Int)) = false := decide_eq_false c9
          have c9b1 : decide (a0.size < t236.size) = false := decide_eq_false (fun h => c9 (Int.ofNat_lt.mpr h))
          clear c9
          by_cases c11 : ((Op.bytesLess a2.toList a0.toList) = true)
          · rw [if_pos c11] at H
            have c11b0 : (Op.bytesLess a2.toList a0.toList) = true := c11
            clear c11
            obtain rfl := Option.some.inj H
            go_enter Try.func9, Try.ntmps9
            go_wp2_with (first | ((with_reducible refine gate_callee (f := 27) rfl ?_); refine goesL_ (some 10) rfl rfl Try.func27 (by kernel_rfl) rfl #[.string a0, .string a1] rfl (by (try simp only [List.map_toArray, List.map_cons, List.map_nil]); first | done | rfl | (simp only [List.length_drop, List.length_take]; rfl)) ?_; (with_reducible refine (ikey_Between.calls k a0 a1 t236 _ A4.out).mono ?_); rintro e w12 ⟨rfl, hb⟩; refine ⟨_, rfl, ?_⟩; have n0_ := Aside0.mk (below_step (by repeat (first | (with_reducible first | exact HB.out | apply below_alloc | apply pw_below_drewN | apply below_drew1) | exact HB.out)) hb); clear HB; have HB := n0_; clear n0_; (try clear hb); (try clear hb2); (try clear hk); (try clear hi)))
            go_ret
            exact ⟨by first | rfl | (simp [errW_none, errW_some] <;> rfl) | (simp [*, errW_none, errW_some] <;> rfl), by repeat (first | (with_reducible first | exact HB.out | apply below_alloc | apply pw_below_drewN | apply below_drew1) | exact HB.out)⟩
          · rw [if_neg c11] at H
            have c11b0 : (Op.bytesLess a2.toList a0.toList) = false := by simpa using c11
            clear c11
            by_cases c13 : ((Op.bytesLess a2.toList a1.toList) = true)
            · rw [if_pos c13] at H
              have c13b0 : (Op.bytesLess a2.toList a1.toList) = true := c13
              clear c13
              by_cases c14 : (a2.size : Int) > (t236.size : Int)
              · rw [if_pos c14] at H
                have c14b0 : decide ((t236.size : Int) < (a2.size : Int)) = true := decide_eq_true c14
                have c14b1 : decide (t236.size < a2.size) = true := decide_eq_true (Int.ofNat_lt.mp c14)
                clear c14
                obtain rfl := Option.some.inj H
                go_enter Try.func9, Try.ntmps9
                go_wp2_with (first | ((with_reducible refine gate_callee (f := 27) rfl ?_); refine goesL_ (some 10) rfl rfl Try.func27 (by kernel_rfl) rfl #[.string a0, .string a1] rfl (by (try simp only [List.map_toArray, List.map_cons, List.map_nil]); first | done | rfl | (simp only [List.length_drop, List.length_take]; rfl)) ?_; (with_reducible refine (ikey_Between.calls k a0 a1 t236 _ A4.out).mono ?_); rintro e w15 ⟨rfl, hb⟩; refine ⟨_, rfl, ?_⟩; have n0_ := Aside0.mk (below_step (by repeat (first | (with_reducible first | exact HB.out | apply below_alloc | apply pw_below_drewN | apply below_drew1) | exact HB.out)) hb); clear HB; have HB := n0_; clear n0_; (try clear hb); (try clear hb2); (try clear hk); (try clear hi)))
                go_ret
                exact ⟨by first | rfl | (simp [errW_none, errW_some] <;> rfl) | (simp [*, errW_none, errW_some] <;> rfl), by repeat (first | (with_reducible first | exact HB.out | apply below_alloc | apply pw_below_drewN | apply below_drew1) | exact HB.out)⟩
              · rw [if_neg c14] at H
                have c14b0 : decide ((t236.size : Int) < (a2.size : Int)) = false := decide_eq_false c14
                have c14b1 : decide (t236.size < a2.size) = false := decide_eq_false (fun h => c14 (Int.ofNat_lt.mpr h))
                clear c14
                by_cases c16 : (a2.size : Int) = (t236.size : Int)
                · rw [if_pos c16] at H
                  have c16b0 : ((a2.size : Int) == (t236.size : Int)) = true := beq_iff_eq.mpr c16
                  have c16b1 : ((a2.size : Int) != (t236.size : Int)) = false := bne_eq_false_iff_eq.mpr c16
                  have c16b2 : (a2.size == t236.size) = true := by first | simpa using c16 | (simp at c16 ⊢; omega)
                  clear c16
                  obtain rfl := Option.some.inj H
                  go_enter Try.func9, Try.ntmps9
                  go_wp2_with (first | ((with_reducible refine gate_callee (f := 27) rfl ?_); refine goesL_ (some 10) rfl rfl Try.func27 (by kernel_rfl) rfl #[.string a0, .string a1] rfl (by (try simp only [List.map_toArray, List.map_cons, List.map_nil]); first | done | rfl | (simp only [List.length_drop, List.length_take]; rfl)) ?_; (with_reducible refine (ikey_Between.calls k a0 a1 t236 _ A4.out).mono ?_); rintro e w17 ⟨rfl, hb⟩; refine ⟨_, rfl, ?_⟩; have n0_ := Aside0.mk (below_step (by repeat (first | (with_reducible first | exact HB.out | apply below_alloc | apply pw_below_drewN | apply below_drew1) | exact HB.out)) hb); clear HB; have HB := n0_; clear n0_; (try clear hb); (try clear hb2); (try clear hk); (try clear hi)))
                  go_ret
                  exact ⟨by first | rfl | (simp [errW_none, errW_some] <;> rfl) | (simp [*, errW_none, errW_some] <;> rfl), by repeat (first | (with_reducible first | exact HB.out | apply below_alloc | apply pw_below_drewN | apply below_drew1) | exact HB.out)⟩
                · rw [if_neg c16] at H
                  have c16b0 : ((a2.size : Int) == (t236.size : Int)) = false := beq_eq_false_iff_ne.mpr c16
                  have c16b1 : ((a2.size : Int) != (t236.size : Int)) = true := bne_iff_ne.mpr c16
                  have c16b2 : (a2.size == t236.size) = false := by first | simpa using c16 | (simp at c16 ⊢; omega)
                  obtain rfl := Option.some.inj H
                  go_enter Try.func9, Try.ntmps9
                  go_wp2_with (first | ((with_reducible refine gate_callee (f := 27) rfl ?_); refine goesL_ (some 10) rfl rfl Try.func27 (by kernel_rfl) rfl #[.string a0, .string a1] rfl (by (try simp only [List.map_toArray, List.map_cons, List.map_nil]); first | done | rfl | (simp only [List.length_drop, List.length_take]; rfl)) ?_; (with_reducible refine (ikey_Between.calls k a0 a1 t236 _ A4.out).mono ?_); rintro e w18 ⟨rfl, hb⟩; refine ⟨_, rfl, ?_⟩; have n0_ := Aside0.mk (below_step (by repeat (first | (with_reducible first | exact HB.out | apply below_alloc | apply pw_below_drewN | apply below_drew1) | exact HB.out)) hb); clear HB; have HB := n0_; clear n0_; (try clear hb); (try clear hb2); (try clear hk); (try clear hi)))
                  go_ret
                  exact ⟨by first | rfl | (simp [errW_none, errW_some] <;> rfl) | (simp [*, errW_none, errW_some] <;> rfl), by repeat (first | (with_reducible first | exact HB.out | apply below_alloc | apply pw_below_drewN | apply below_drew1) | exact HB.out)⟩
            · rw [if_neg c13] at H
              have c13b0 : (Op.bytesLess a2.toList a1.toList) = false := by simpa using c13
              clear c13
              obtain rfl := Option.some.inj H
              go_enter Try.func9, Try.ntmps9
              go_wp2_with (first | ((with_reducible refine gate_callee (f := 27) rfl ?_); refine goesL_ (some 10) rfl rfl Try.func27 (by kernel_rfl) rfl #[.string a0, .string a1] rfl (by (try simp only [List.map_toArray, List.map_cons, List.map_nil]); first | done | rfl | (simp only [List.length_drop, List.length_take]; rfl)) ?_; (with_reducible refine (ikey_Between.calls k a0 a1 t236 _ A4.out).mono ?_); rintro e w19 ⟨rfl, hb⟩; refine ⟨_, rfl, ?_⟩; have n0_ := Aside0.mk (below_step (by repeat (first | (with_reducible first | exact HB.out | apply below_alloc | apply pw_below_drewN | apply below_drew1) | exact HB.out)) hb); clear HB; have HB := n0_; clear n0_; (try clear hb); (try clear hb2); (try clear hk); (try clear hi)))
              go_ret
              exact ⟨by first | rfl | (simp [errW_none, errW_some] <;> rfl) | (simp [*, errW_none, errW_some] <;> rfl), by repeat (first | (with_reducible first | exact HB.out | apply below_alloc | apply pw_below_drewN | apply below_drew1) | exact HB.out)⟩
      · rw [if_neg c8] at H
        have c8b0 : (Op.bytesLess t236.toList a1.toList) = false := by simpa using c8
        clear c8
        obtain rfl := Option.some.inj H
        go_enter Try.func9, Try.ntmps9
        go_wp2_with (first | ((with_reducible refine gate_callee (f := 27) rfl ?_); refine goesL_ (some 10) rfl rfl Try.func27 (by kernel_rfl) rfl #[.string a0, .string a1] rfl (by (try simp only [List.map_toArray, List.map_cons, List.map_nil]); first | done | rfl | (simp only [List.length_drop, List.length_take]; rfl)) ?_; (with_reducible refine (ikey_Between.calls k a0 a1 t236 _ A4.out).mono ?_); rintro e w20 ⟨rfl, hb⟩; refine ⟨_, rfl, ?_⟩; have n0_ := Aside0.mk (below_step (by repeat (first | (with_reducible first | exact HB.out | apply below_alloc | apply pw_below_drewN | apply below_drew1) | exact HB.out)) hb); clear HB; have HB := n0_; clear n0_; (try clear hb); (try clear hb2); (try clear hk); (try clear hi)))
        go_ret
        exact ⟨by first | rfl | (simp [errW_none, errW_some] <;> rfl) | (simp [*, errW_none, errW_some] <;> rfl), by repeat (first | (with_reducible first | exact HB.out | apply below_alloc | apply pw_below_drewN | apply below_drew1) | exact HB.out)⟩
  · rw [if_neg c5] at H
    have c5b0 : (Op.bytesLess a0.toList a1.toList) = false := by simpa using c5
    clear c5
    obtain rfl := Option.some.inj H
    go_enter Try.func9, Try.ntmps9
    go_wp2_with (first | ((with_reducible refine gate_callee (f := 27) rfl ?_); refine goesL_ (some 10) rfl rfl Try.func27 (by kernel_rfl) rfl #[.string a0, .string a1] rfl (by (try simp only [List.map_toArray, List.map_cons, List.map_nil]); first | done | rfl | (simp only [List.length_drop, List.length_take]; rfl)) ?_; (with_reducible refine (ikey_Between.calls k a0 a1 t236 _ A4.out).mono ?_); rintro e w21 ⟨rfl, hb⟩; refine ⟨_, rfl, ?_⟩; have n0_ := Aside0.mk (below_step (by repeat (first | (with_reducible first | exact HB.out | apply below_alloc | apply pw_below_drewN | apply below_drew1) | exact HB.out)) hb); clear HB; have HB := n0_; clear n0_; (try clear hb); (try clear hb2); (try clear hk); (try clear hi)))
    go_ret
    exact ⟨by first | rfl | (simp [errW_none, errW_some] <;> rfl) | (simp [*, errW_none, errW_some] <;> rfl), by repeat (first | (with_reducible first | exact HB.out | apply below_alloc | apply pw_below_drewN | apply below_drew1) | exact HB.out)⟩

/-- THE ONE PURE STATEMENT of morainelaw03_IkeyShort: yours. -/
def morainelaw03_IkeyShort.Pure : Prop := ∀ (a0 : ByteArray) (a1 : ByteArray) (a2 : ByteArray), a0.size ≤ 140737488351232 → a1.size ≤ 140737488351232 → a2.size ≤ 140737488351232 → ∃ k, morainelaw03_IkeyShort.f k a0 a1 a2 = some true
theorem morainelaw03_IkeyShort.walk (P : morainelaw03_IkeyShort.Pure) (a0 : ByteArray) (a1 : ByteArray) (a2 : ByteArray) (w : World) (w0 : a0.size ≤ 140737488351232) (w1 : a1.size ≤ 140737488351232) (w2 : a2.size ≤ 140737488351232) :
    Calls Try.prog 9 #[.string a0, .string a1, .string a2] w fun e w' => e = .returned (.bool true) ∧ Below w.heap.size w w' := by
  obtain ⟨k, h⟩ := P a0 a1 a2 w0 w1 w2
  refine (morainelaw03_IkeyShort.calls k a0 a1 a2 true w h).mono ?_
  rintro e w' ⟨rfl, hd⟩
  exact ⟨rfl, hd⟩

end Go.Proofs.Ytdoolmomkffdaaa.G

/- The plain statement of IkeyShort: a short key between two others. -/
namespace Go.Proofs.Ytdoolmomkffdaaa.Pure
open Go.RowKit Go.Proofs.Ytdoolmomkffdaaa.G Go.Proofs.YtdoolmomkffdaaaW.PrintWords Go.Proofs.YtdoolmomkffdaaaW.PrintLast

theorem IkeyShort : morainelaw03_IkeyShort.Pure := by
  intro a0 a1 a2 h0 h1 h2
  refine ⟨2 * a0.size + 2, ?_⟩
  have hb := between_eq a0 a1 (2 * a0.size + 2) h0 (Nat.le_refl _)
  have z0 : a0.data.toList.length = a0.size := data_length a0
  have z2 : a2.data.toList.length = a2.size := data_length a2
  unfold morainelaw03_IkeyShort.f
  rw [hb, Option.bind_some]
  have hd : ∀ l : List UInt8, (ofL l).data.toList = l := fun l => by simp [ofL]
  simp only [less_cb, Lib.toList_data, ofL_size, hd]
  by_cases hab : cb a0.data.toList a1.data.toList < 0
  · obtain ⟨s1, s2, s3, s4⟩ := btw_short hab
    obtain ⟨m, hm⟩ : ∃ m, btw a0.data.toList a1.data.toList = m := ⟨_, rfl⟩
    rw [hm] at s1 s2 s3 s4 ⊢
    have n1 : ¬ cb m a0.data.toList < 0 := by have := cb_anti a0.data.toList m; omega
    rw [decide_eq_true hab, if_pos rfl, decide_eq_false n1, if_neg Bool.false_ne_true, decide_eq_true s2, if_pos rfl, if_neg (by omega)]
    by_cases c1 : cb a2.data.toList a0.data.toList < 0
    · rw [decide_eq_true c1, if_pos rfl]
    · rw [decide_eq_false c1, if_neg Bool.false_ne_true]
      by_cases c2 : cb a2.data.toList a1.data.toList < 0
      · rw [decide_eq_true c2, if_pos rfl]
        have h4 := s4 a2.data.toList (by have := cb_anti a0.data.toList a2.data.toList; omega) c2
        by_cases c3 : (a2.size : Int) > (m.length : Int)
        · rw [if_pos c3]
        · rw [if_neg c3]
          rcases h4 with h4 | ⟨h4, h5⟩
          · omega
          · rw [if_pos (by omega)]
            have : ¬ cb a2.data.toList m < 0 := by have := cb_anti m a2.data.toList; omega
            rw [decide_eq_false this]; rfl
      · rw [decide_eq_false c2, if_neg Bool.false_ne_true]
  · have : btw a0.data.toList a1.data.toList = a0.data.toList := by unfold btw; rw [if_neg hab]
    rw [this, decide_eq_false hab, if_neg Bool.false_ne_true]
    simp

end Go.Proofs.Ytdoolmomkffdaaa.Pure
