/- The program's SharesOf returns what the reference's returns: for all arguments. -/
import Derived.Test.YtfijnlbkflmkbaaFx13
import Derived.Test.YtfijnlbkflmkbaaFx50
import Derived.Test.YtfijnlbkflmkbaaFx51
import Derived.Test.YtfijnlbkflmkbaaPureShares
namespace Go.Proofs.Ytfijnlbkflmkbaa.Pure
open Go.RowKit Go.Proofs.Ytfijnlbkflmkbaa.F Go.Proofs.YtfijnlbkflmkbaaW.PrintWords Go.Proofs.YtfijnlbkflmkbaaW.PrintLast

theorem FnExactSharesOf : laws_FnExactSharesOf.Pure := by
  intro l hw
  have h := sharesV_small l
  exact ⟨(sharesV l).1, (sharesV l).2, specSha_ev l, implSha_ev l hw, by omega, fun r hr => by have := h.2 r hr; omega⟩
end Go.Proofs.Ytfijnlbkflmkbaa.Pure
