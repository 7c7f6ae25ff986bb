/- The program's IsWithoutCrossings returns what the reference's returns: for all arguments. -/
import Derived.Test.YtfijnlbkflmkbaaFx17
import Derived.Test.YtfijnlbkflmkbaaFx26
import Derived.Test.YtfijnlbkflmkbaaFx27
import Derived.Test.YtfijnlbkflmkbaaPureFlat
import Derived.Test.YtfijnlbkflmkbaaPureD
namespace Go.Proofs.Ytfijnlbkflmkbaa.Pure
open Go.RowKit Go.Proofs.Ytfijnlbkflmkbaa.F Go.Proofs.YtfijnlbkflmkbaaW.PrintWords Go.Proofs.YtfijnlbkflmkbaaW.PrintLast

theorem FnExactIsWithoutCrossings : laws_FnExactIsWithoutCrossings.Pure := by
  intro l hm hl hw 
  refine Ev.rounds ?_
  unfold laws_FnExactIsWithoutCrossings.f
  by_cases hb : (l.length : Int) > 1048576
  · exact Ev.congr (fun _ => if_pos hb) (Ev.now _)
  refine Ev.congr (fun _ => if_neg hb) ?_
  have hS := specFlat_ev l
  have hI := implFlat_ev l hw
  generalize flatV l = v at *
  obtain ⟨v, c⟩ := v
  refine Ev.bind (toS_ev l (by omega)) ?_
  refine Ev.bind hS ?_
  refine Ev.bind (toS_ev l (by omega)) ?_
  refine Ev.bind hI ?_
  refine Ev.congr (fun k => if_neg (by simp)) ?_
  refine Ev_succ ?_
  simp only [laws_FnExactIsWithoutCrossings.j0, bne_self_eq_false, Bool.false_eq_true, if_false]
  refine Ev.bind (toS_ev l (by omega)) ?_
  refine Ev.bind (eqS_ev l l (by omega)) ?_
  exact Ev.congr (fun k => if_pos (decide_eq_true rfl)) (Ev.now _)
end Go.Proofs.Ytfijnlbkflmkbaa.Pure
