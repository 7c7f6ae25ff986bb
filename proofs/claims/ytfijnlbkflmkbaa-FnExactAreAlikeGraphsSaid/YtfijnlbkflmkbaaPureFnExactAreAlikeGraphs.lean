/- The program's AreAlikeGraphs returns what the reference's returns: for all arguments. -/
import Derived.Test.YtfijnlbkflmkbaaFx19
import Derived.Test.YtfijnlbkflmkbaaFx65
import Derived.Test.YtfijnlbkflmkbaaFx66
import Derived.Test.YtfijnlbkflmkbaaPureGraphs
import Derived.Test.YtfijnlbkflmkbaaPureD
namespace Go.Proofs.Ytfijnlbkflmkbaa.Pure
open Go.RowKit Go.Proofs.Ytfijnlbkflmkbaa.F Go.Proofs.YtfijnlbkflmkbaaW.PrintWords Go.Proofs.YtfijnlbkflmkbaaW.PrintLast

theorem FnExactAreAlikeGraphs : laws_FnExactAreAlikeGraphs.Pure := by
  intro a b hm hl hw hm2 hl2 hw2
  refine Ev.rounds ?_
  unfold laws_FnExactAreAlikeGraphs.f
  by_cases ha : (a.length : Int) > 1048576
  · exact Ev.congr (fun _ => if_pos ha) (Ev.now _)
  refine Ev.congr (fun _ => if_neg ha) ?_
  by_cases hb : (b.length : Int) > 1048576
  · exact Ev.congr (fun _ => if_pos hb) (Ev.now _)
  refine Ev.congr (fun _ => if_neg hb) ?_
  obtain ⟨⟨v, c⟩, hS, hI⟩ := areAlikeGraphs_both a b hw hw2
  refine Ev.bind (toS_ev a (by omega)) ?_
  refine Ev.bind (toS_ev b (by omega)) ?_
  refine Ev.bind hS ?_
  refine Ev.bind (toS_ev a (by omega)) ?_
  refine Ev.bind (toS_ev b (by omega)) ?_
  refine Ev.bind hI ?_
  refine Ev.congr (fun k => if_neg (by simp)) ?_
  refine Ev_succ ?_
  simp only [laws_FnExactAreAlikeGraphs.j0, bne_self_eq_false, Bool.false_eq_true, if_false]
  refine Ev.bind (toS_ev a (by omega)) ?_
  refine Ev.bind (eqS_ev a a (by omega)) ?_
  refine Ev.congr (fun k => if_pos (decide_eq_true rfl)) ?_
  refine Ev.bind (toS_ev b (by omega)) ?_
  refine Ev.bind (eqS_ev b b (by omega)) ?_
  exact Ev.congr (fun k => if_pos (decide_eq_true rfl)) (Ev.now _)
end Go.Proofs.Ytfijnlbkflmkbaa.Pure
