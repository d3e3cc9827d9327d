/- Printed by the session's program over the kit's print, out of the translation: functions as plain Lean functions, and the proofs that the calls come to them. -/
import Derived.Test.YtnapjjjomodmeaaProg
import Derived.Below
import Derived.Deep.Draws
import Derived.Deep.AppendLies
import Derived.Maps.AppendAt
import Derived.OwnWalk
import Derived.Laws.BytesArg
import Derived.Laws.MakeOwn
import Derived.Laws.OwnMore
import Derived.Deep.OwnRows
import Derived.Tactics
import Derived.Lib.ConvBytes
import Derived.Laws.Slices
import Derived.WalkKit
import Derived.KernelRfl
import Derived.RowKit3
import Derived.Deep.LoopGhost
import Derived.Deep.QuietTactic
import Derived.BigQuiet
import Derived.WideLaws
import Derived.Deep.DeepCutAuto
import Derived.Deep.CutBlock
import Derived.Deep.RegionHeld3
import Derived.Laws.Rows
import Derived.Lib.AppendStr
import Derived.ArgAppend
import Derived.Laws.IdiomCopy
import Derived.OrdersHeld
import Derived.Laws.BitsLemmas
import Derived.RowKit
import Derived.Test.YtnapjjjomodmeaaPureCrc
import Derived.Test.YtnapjjjomodmeaaPureArr02
import Derived.Test.YtnapjjjomodmeaaWWords
import Derived.Test.YtnapjjjomodmeaaWLast
import Derived.Test.YtnapjjjomodmeaaWTab
import Derived.Test.YtnapjjjomodmeaaWFour
import Derived.Test.YtnapjjjomodmeaaWQPut
import Derived.Test.YtnapjjjomodmeaaWApart
import Derived.Test.YtnapjjjomodmeaaWArr
import Derived.Test.YtnapjjjomodmeaaWZeros
import Derived.Test.YtnapjjjomodmeaaWFoot
import Derived.Test.YtnapjjjomodmeaaWKept
import Derived.Test.YtnapjjjomodmeaaWShare
import Derived.Test.YtnapjjjomodmeaaWN
import Derived.Test.YtnapjjjomodmeaaWFootNe
import Derived.Test.YtnapjjjomodmeaaWAt
import Derived.Test.YtnapjjjomodmeaaWEqStruct
import Derived.Test.YtnapjjjomodmeaaWRepsOne
import Derived.Test.YtnapjjjomodmeaaWInv
import Derived.Test.YtnapjjjomodmeaaWInvWords
import Derived.Test.YtnapjjjomodmeaaWGuard
import Derived.Test.YtnapjjjomodmeaaWNEv
import Derived.Test.YtnapjjjomodmeaaWMore
namespace Go.Proofs.Ytnapjjjomodmeaa.G
open Go.RowKit Go.Proofs.YtnapjjjomodmeaaW.PrintWords Go.Proofs.YtnapjjjomodmeaaW.PrintLast Go.Proofs.YtnapjjjomodmeaaW.PrintMore
attribute [local go_sem] max2_int min2_int max_two min_two max_three min_three max_four min_four   -- for this text's walks alone
set_option linter.unusedVariables false
set_option linter.unusedSimpArgs false



def errW : Option Int → Value
  | none => .nilIface
  | some c => .iface 0 (.int .i64 c)
theorem errW_none : errW none = .nilIface := rfl
theorem errW_some (c : Int) : errW (some c) = .iface 0 (.int .i64 c) := rfl

-- the values' own types

end Go.Proofs.Ytnapjjjomodmeaa.G
