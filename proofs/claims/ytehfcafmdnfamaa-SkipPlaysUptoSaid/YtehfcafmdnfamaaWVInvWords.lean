import Derived.Test.YtehfcafmdnfamaaWVInv
import Derived.Test.YtehfcafmdnfamaaWVFootNe
namespace Go.Proofs.YtehfcafmdnfamaaW.PrintWords
open Go.RowKit
end Go.Proofs.YtehfcafmdnfamaaW.PrintWords
namespace Go.Proofs.YtehfcafmdnfamaaW.PrintLast
section
variable {ops : Array Oper} {a : Act} {o og : Oper} {g : Nat} {t : Tmp} {u : Bool}
end
end Go.Proofs.YtehfcafmdnfamaaW.PrintLast

