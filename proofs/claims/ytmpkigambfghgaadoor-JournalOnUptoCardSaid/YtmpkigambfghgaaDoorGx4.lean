/- Printed by the session's program over the kit's print, out of the translation: functions as plain Lean functions, and the proofs that the calls come to them. -/
import Derived.Test.YtmpkigambfghgaaDoorGx0
namespace Go.Proofs.YtmpkigambfghgaaDoor.G
open Go.RowKit Go.Proofs.YtmpkigambfghgaaDoorW.PrintWords Go.Proofs.YtmpkigambfghgaaDoorW.PrintLast Go.Proofs.YtmpkigambfghgaaDoorW.PrintMore
attribute [local go_sem] max2_int min2_int max_two min_two max_three min_three max_four min_four   -- for this text's walks alone
set_option linter.unusedVariables false
set_option linter.unusedSimpArgs false

/-! ### check_Mask: function 41 -/
def check_Mask.f (a0 : Int) : Option (Int) := some (((Go.bits .or .u32 (a0 / 32768) ((a0 * 131072) % 4294967296)) + 2726488792) % 4294967296)
set_option maxHeartbeats 8000000 in
set_option maxRecDepth 100000 in
theorem check_Mask.calls (a0 : Int) (r : Int) (w : World) (h : check_Mask.f a0 = some r) :
    Calls Tryd.prog 41 #[.int .u32 a0] w fun e w' => e = .returned (.int .u32 r) ∧ Drawn0 w w' := by
  have H : (some (((Go.bits .or .u32 (a0 / 32768) ((a0 * 131072) % 4294967296)) + 2726488792) % 4294967296)) = some r := h
  clear h
  obtain rfl := Option.some.inj H
  go_enter Tryd.func41, Tryd.ntmps41
  go_wp2
  go_ret
  exact ⟨by first | rfl | (simp; done) | (simp [*]; done), by repeat (first | exact Drawn0.refl _ | apply Drawn0.step)⟩

end Go.Proofs.YtmpkigambfghgaaDoor.G
