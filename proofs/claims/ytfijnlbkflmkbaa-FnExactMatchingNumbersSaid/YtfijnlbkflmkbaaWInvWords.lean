/- Words on rows, blocks and worlds that the walks of this claim use. -/
import Derived.Test.YtfijnlbkflmkbaaWInv
import Derived.Test.YtfijnlbkflmkbaaWFootNe
namespace Go.Proofs.YtfijnlbkflmkbaaW.PrintWords
open Go.RowKit
end Go.Proofs.YtfijnlbkflmkbaaW.PrintWords
namespace Go.Proofs.YtfijnlbkflmkbaaW.PrintLast
section
variable {ops : Array Oper} {a : Act} {o og : Oper} {g : Nat} {t : Tmp} {u : Bool}
end
end Go.Proofs.YtfijnlbkflmkbaaW.PrintLast
