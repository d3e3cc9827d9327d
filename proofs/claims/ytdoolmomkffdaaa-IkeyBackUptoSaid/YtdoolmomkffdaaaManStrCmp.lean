/- Contracts typed by hand: strings.Compare: the order of two strings, byte by byte -/
import Derived.Test.YtdoolmomkffdaaaProg
import Derived.Below
import Derived.Deep.Draws
import Derived.Deep.AppendLies
import Derived.Maps.AppendAt
import Derived.OwnWalk
import Derived.Laws.BytesArg
import Derived.Laws.MakeOwn
import Derived.Laws.OwnMore
import Derived.Deep.OwnRows
import Derived.Tactics
import Derived.Lib.ConvBytes
import Derived.Laws.Slices
import Derived.WalkKit
import Derived.KernelRfl
import Derived.RowKit3
import Derived.Deep.LoopGhost
import Derived.Deep.QuietTactic
import Derived.BigQuiet
import Derived.WideLaws
import Derived.Deep.DeepCutAuto
import Derived.Deep.CutBlock
import Derived.Deep.RegionHeld3
import Derived.Laws.Rows
import Derived.Lib.AppendStr
import Derived.ArgAppend
import Derived.Laws.IdiomCopy
import Derived.OrdersHeld
import Derived.Laws.BitsLemmas
import Derived.RowKit
import Derived.Test.YtdoolmomkffdaaaWWords
import Derived.Test.YtdoolmomkffdaaaWLast
import Derived.Test.YtdoolmomkffdaaaWTab
import Derived.Test.YtdoolmomkffdaaaWFour
import Derived.Test.YtdoolmomkffdaaaWQPut
import Derived.Test.YtdoolmomkffdaaaWApart
import Derived.Test.YtdoolmomkffdaaaWArr
import Derived.Test.YtdoolmomkffdaaaWZeros
import Derived.Test.YtdoolmomkffdaaaWFoot
import Derived.Test.YtdoolmomkffdaaaWKept
import Derived.Test.YtdoolmomkffdaaaWShare
import Derived.Test.YtdoolmomkffdaaaWN
import Derived.Test.YtdoolmomkffdaaaWFootNe
import Derived.Test.YtdoolmomkffdaaaWAt
import Derived.Test.YtdoolmomkffdaaaWEqStruct
import Derived.Test.YtdoolmomkffdaaaWRepsOne
import Derived.Test.YtdoolmomkffdaaaWInv
import Derived.Test.YtdoolmomkffdaaaWInvWords
import Derived.Test.YtdoolmomkffdaaaWGuard
import Derived.Test.YtdoolmomkffdaaaWNEv
import Derived.Test.YtdoolmomkffdaaaWMore
import Derived.Lib.Bytealg
import Derived.Laws.Externs
namespace Go.Proofs.Ytdoolmomkffdaaa.G
open Go.RowKit Go.Proofs.YtdoolmomkffdaaaW.PrintWords Go.Proofs.YtdoolmomkffdaaaW.PrintLast Go.Proofs.YtdoolmomkffdaaaW.PrintMore
attribute [local go_sem] max2_int min2_int max_two min_two max_three min_three max_four min_four
set_option linter.unusedVariables false
set_option linter.unusedSimpArgs false

/-! strings.Compare: the order of two strings, byte by byte -/
def strings_Compare.f (a0 a1 : ByteArray) : Option Int := some (Lib.compareBytes a0.data.toList a1.data.toList)
theorem bytealg_CompareString.calls (a0 a1 : ByteArray) (w : World) :
    Calls Try.prog 51 #[.string a0, .string a1] w fun e w' => e = .returned (.int .i64 (Lib.compareBytes a0.data.toList a1.data.toList)) ∧ w = w' := by
  go_enter Try.func51, Try.ntmps51
  go_wp2
  rw [run_callFunc_extern Try.func58 (by kernel_rfl) (by kernel_rfl) (by kernel_rfl) (e := Extern.BytealgCompare.compare) (by kernel_rfl), Lib.run_compareString]
  simp only [Result.andThen]
  rw [Oper.upon_value]
  go_wp2
  go_ret
  exact ⟨rfl, rfl⟩
theorem strings_Compare.calls (a0 a1 : ByteArray) (r : Int) (w : World) (h : strings_Compare.f a0 a1 = some r) :
    Calls Try.prog 38 #[.string a0, .string a1] w fun e w' => e = .returned (.int .i64 r) ∧ Drawn0 w w' := by
  obtain rfl := Option.some.inj h
  clear h
  generalize hr : Lib.compareBytes a0.data.toList a1.data.toList = r
  have HR := Aside0.mk hr
  clear hr
  go_enter Try.func38, Try.ntmps38
  go_wp2_with (go_at_call 51; refine (bytealg_CompareString.calls _ _ _).mono ?_; rintro e w' ⟨rfl, rfl⟩; rw [HR.out])
  go_ret
  exact ⟨rfl, Drawn0.refl _⟩

end Go.Proofs.Ytdoolmomkffdaaa.G
