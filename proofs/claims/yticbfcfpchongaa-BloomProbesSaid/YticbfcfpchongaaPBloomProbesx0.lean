-- PRINTED BY print.sh 35421559b90ae4d0a3588c463048766b98c2df88dd9212a6774a882060cdf62d: not written by this session
import Derived.Test.YticbfcfpchongaaProg
import Derived.Below
import Derived.Deep.Draws
import Derived.Deep.AppendLies
import Derived.Maps.AppendAt
import Derived.OwnWalk
import Derived.Laws.BytesArg
import Derived.Laws.MakeOwn
import Derived.Laws.OwnMore
import Derived.Deep.OwnRows
import Derived.Tactics
import Derived.Lib.ConvBytes
import Derived.Laws.Slices
import Derived.WalkKit
import Derived.KernelRfl
import Derived.RowKit3
import Derived.Deep.LoopGhost
import Derived.Deep.QuietTactic
import Derived.BigQuiet
import Derived.WideLaws
import Derived.Deep.DeepCutAuto
import Derived.Deep.CutBlock
import Derived.Deep.RegionHeld3
import Derived.Laws.Rows
import Derived.Lib.AppendStr
import Derived.ArgAppend
import Derived.Laws.IdiomCopy
import Derived.OrdersHeld
import Derived.Laws.BitsLemmas
import Derived.RowKit
import Derived.Test.YticbfcfpchongaaWWords
import Derived.Test.YticbfcfpchongaaWLast
import Derived.Test.YticbfcfpchongaaWTab
import Derived.Test.YticbfcfpchongaaWFour
import Derived.Test.YticbfcfpchongaaWQPut
import Derived.Test.YticbfcfpchongaaWApart
import Derived.Test.YticbfcfpchongaaWArr
import Derived.Test.YticbfcfpchongaaWZeros
import Derived.Test.YticbfcfpchongaaWFoot
import Derived.Test.YticbfcfpchongaaWKept
import Derived.Test.YticbfcfpchongaaWShare
import Derived.Test.YticbfcfpchongaaWN
import Derived.Test.YticbfcfpchongaaWFootNe
import Derived.Test.YticbfcfpchongaaWAt
import Derived.Test.YticbfcfpchongaaWEqStruct
import Derived.Test.YticbfcfpchongaaWRepsOne
import Derived.Test.YticbfcfpchongaaWInv
import Derived.Test.YticbfcfpchongaaWInvWords
import Derived.Test.YticbfcfpchongaaWGuard
import Derived.Test.YticbfcfpchongaaWNEv
import Derived.Test.YticbfcfpchongaaWMore
namespace Go.Proofs.Yticbfcfpchongaa.PBloomProbes
open Go.RowKit Go.Proofs.YticbfcfpchongaaW.PrintWords Go.Proofs.YticbfcfpchongaaW.PrintLast Go.Proofs.YticbfcfpchongaaW.PrintMore
attribute [local go_sem] max2_int min2_int max_two min_two max_three min_three max_four min_four   -- for this text's walks alone
set_option linter.unusedVariables false
set_option linter.unusedSimpArgs false



def errW : Option Int → Value
  | none => .nilIface
  | some c => .iface 0 (.int .i64 c)
theorem errW_none : errW none = .nilIface := rfl
theorem errW_some (c : Int) : errW (some c) = .iface 0 (.int .i64 c) := rfl

-- the values' own types

end Go.Proofs.Yticbfcfpchongaa.PBloomProbes
