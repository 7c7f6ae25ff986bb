/- The program's CountMeanders returns what the reference's returns: for all numbers. -/
import Derived.Test.YtfijnlbkflmkbaaFx40
import Derived.Test.YtfijnlbkflmkbaaFx41
import Derived.Test.YtfijnlbkflmkbaaFx8
import Derived.Test.YtfijnlbkflmkbaaPureMea3
namespace Go.Proofs.Ytfijnlbkflmkbaa.Pure
open Go.RowKit Go.Proofs.Ytfijnlbkflmkbaa.F Go.Proofs.YtfijnlbkflmkbaaW.PrintWords Go.Proofs.YtfijnlbkflmkbaaW.PrintLast

theorem FnExactCountMeanders : laws_FnExactCountMeanders.Pure := by
  intro n hw
  obtain ⟨v, hS, hI⟩ := countMeanders_both n
  refine Ev.rounds ?_
  unfold laws_FnExactCountMeanders.f
  refine Ev.bind hS ?_
  refine Ev.bind hI ?_
  exact Ev.congr (fun k => (if_pos rfl).trans (if_pos rfl)) (Ev.now _)
end Go.Proofs.Ytfijnlbkflmkbaa.Pure
