/- The program's LeastColours returns what the reference's returns: for all arguments. -/
import Derived.Test.YtfijnlbkflmkbaaFx14
import Derived.Test.YtfijnlbkflmkbaaFx55
import Derived.Test.YtfijnlbkflmkbaaFx56
import Derived.Test.YtfijnlbkflmkbaaPureLeastI
import Derived.Test.YtfijnlbkflmkbaaPureD
namespace Go.Proofs.Ytfijnlbkflmkbaa.Pure
open Go.RowKit Go.Proofs.Ytfijnlbkflmkbaa.F Go.Proofs.YtfijnlbkflmkbaaW.PrintWords Go.Proofs.YtfijnlbkflmkbaaW.PrintLast

theorem FnExactLeastColours : laws_FnExactLeastColours.Pure := by
  intro l hm hl hw 
  refine Ev.rounds ?_
  unfold laws_FnExactLeastColours.f
  by_cases hb : (l.length : Int) > 1048576
  · exact Ev.congr (fun _ => if_pos hb) (Ev.now _)
  refine Ev.congr (fun _ => if_neg hb) ?_
  have hS := specLea_ev l
  have hI := implLea_ev l hw
  generalize leastV l = v at *
  obtain ⟨v, c⟩ := v
  refine Ev.bind (toS_ev l (by omega)) ?_
  refine Ev.bind hS ?_
  refine Ev.bind (toS_ev l (by omega)) ?_
  refine Ev.bind hI ?_
  refine Ev.congr (fun k => if_pos rfl) ?_
  refine Ev_succ ?_
  simp only [laws_FnExactLeastColours.j0, bne_self_eq_false, Bool.false_eq_true, if_false]
  refine Ev.bind (toS_ev l (by omega)) ?_
  refine Ev.bind (eqS_ev l l (by omega)) ?_
  exact Ev.congr (fun k => if_pos (decide_eq_true rfl)) (Ev.now _)
end Go.Proofs.Ytfijnlbkflmkbaa.Pure
