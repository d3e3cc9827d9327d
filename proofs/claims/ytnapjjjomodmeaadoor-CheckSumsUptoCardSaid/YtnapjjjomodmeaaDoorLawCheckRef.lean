/- Contracts typed by hand: the reference's sums -/
import Derived.Test.YtnapjjjomodmeaaDoorProg
import Derived.Below
import Derived.Deep.Draws
import Derived.Deep.AppendLies
import Derived.Maps.AppendAt
import Derived.OwnWalk
import Derived.Laws.BytesArg
import Derived.Laws.MakeOwn
import Derived.Laws.OwnMore
import Derived.Deep.OwnRows
import Derived.Tactics
import Derived.Lib.ConvBytes
import Derived.Laws.Slices
import Derived.WalkKit
import Derived.KernelRfl
import Derived.RowKit3
import Derived.Deep.LoopGhost
import Derived.Deep.QuietTactic
import Derived.BigQuiet
import Derived.WideLaws
import Derived.Deep.DeepCutAuto
import Derived.Deep.CutBlock
import Derived.Deep.RegionHeld3
import Derived.Laws.Rows
import Derived.Lib.AppendStr
import Derived.ArgAppend
import Derived.Laws.IdiomCopy
import Derived.OrdersHeld
import Derived.Laws.BitsLemmas
import Derived.RowKit
import Derived.Test.YtnapjjjomodmeaaDoorWWords
import Derived.Test.YtnapjjjomodmeaaDoorWLast
import Derived.Test.YtnapjjjomodmeaaDoorWTab
import Derived.Test.YtnapjjjomodmeaaDoorWFour
import Derived.Test.YtnapjjjomodmeaaDoorWQPut
import Derived.Test.YtnapjjjomodmeaaDoorWApart
import Derived.Test.YtnapjjjomodmeaaDoorWArr
import Derived.Test.YtnapjjjomodmeaaDoorWZeros
import Derived.Test.YtnapjjjomodmeaaDoorWFoot
import Derived.Test.YtnapjjjomodmeaaDoorWKept
import Derived.Test.YtnapjjjomodmeaaDoorWShare
import Derived.Test.YtnapjjjomodmeaaDoorWN
import Derived.Test.YtnapjjjomodmeaaDoorWFootNe
import Derived.Test.YtnapjjjomodmeaaDoorWAt
import Derived.Test.YtnapjjjomodmeaaDoorWEqStruct
import Derived.Test.YtnapjjjomodmeaaDoorWRepsOne
import Derived.Test.YtnapjjjomodmeaaDoorWInv
import Derived.Test.YtnapjjjomodmeaaDoorWInvWords
import Derived.Test.YtnapjjjomodmeaaDoorWGuard
import Derived.Test.YtnapjjjomodmeaaDoorWNEv
import Derived.Test.YtnapjjjomodmeaaDoorWMore
import Derived.Test.YtnapjjjomodmeaaDoorLawCheckPure
import Derived.Test.YtnapjjjomodmeaaDoorGx7
import Derived.Test.YtnapjjjomodmeaaDoorGx8
namespace Go.Proofs.YtnapjjjomodmeaaDoor.G
open Go.RowKit Go.Proofs.YtnapjjjomodmeaaDoorW.PrintWords Go.Proofs.YtnapjjjomodmeaaDoorW.PrintLast Go.Proofs.YtnapjjjomodmeaaDoorW.PrintMore
attribute [local go_sem] max2_int min2_int max_two min_two max_three min_three max_four min_four
set_option linter.unusedVariables false
set_option linter.unusedSimpArgs false

/-! the reference's sums -/
theorem refextend_eq (k s : Nat) (l : List Int) (hs : s < 4294967296) (hb : Byt l) (hl : l.length ≤ 1099511627776) (hk : 10 * l.length + 1 ≤ k) : moraineref02_Extend.f k (s : Int) l = some ((ext s l : Nat) : Int) := by
  unfold moraineref02_Extend.f
  rw [inv_int s hs, over_eq k _ l (inv_lt hs) hb hl hk, Option.bind_some, inv_int _ (crcB_lt _ _ (inv_lt hs) (natl_byt hb))]
  rfl
theorem refsum_eq (k : Nat) (l : List Int) (hb : Byt l) (hl : l.length ≤ 1099511627776) (hk : 10 * l.length + 1 ≤ k) : moraineref02_Sum.f k l = some ((ext 0 l : Nat) : Int) := by
  unfold moraineref02_Sum.f
  rw [show (0 : Int) = ((0 : Nat) : Int) by rfl, refextend_eq k 0 l (by omega) hb hl hk]
  rfl

end Go.Proofs.YtnapjjjomodmeaaDoor.G
