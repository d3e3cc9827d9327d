import Derived.Test.YtbhifenkfoddgaaWVInv
import Derived.Test.YtbhifenkfoddgaaWVFootNe
namespace Go.Proofs.YtbhifenkfoddgaaW.PrintWords
open Go.RowKit
end Go.Proofs.YtbhifenkfoddgaaW.PrintWords
namespace Go.Proofs.YtbhifenkfoddgaaW.PrintLast
section
variable {ops : Array Oper} {a : Act} {o og : Oper} {g : Nat} {t : Tmp} {u : Bool}
end
end Go.Proofs.YtbhifenkfoddgaaW.PrintLast

