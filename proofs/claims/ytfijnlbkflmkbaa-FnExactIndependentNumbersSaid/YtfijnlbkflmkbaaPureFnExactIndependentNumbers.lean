/- The program's IndependentNumbers returns what the reference's returns: for all arguments. -/
import Derived.Test.YtfijnlbkflmkbaaFx16
import Derived.Test.YtfijnlbkflmkbaaFx59
import Derived.Test.YtfijnlbkflmkbaaFx60
import Derived.Test.YtfijnlbkflmkbaaPureSetsIndependent
import Derived.Test.YtfijnlbkflmkbaaPureD
namespace Go.Proofs.Ytfijnlbkflmkbaa.Pure
open Go.RowKit Go.Proofs.Ytfijnlbkflmkbaa.F Go.Proofs.YtfijnlbkflmkbaaW.PrintWords Go.Proofs.YtfijnlbkflmkbaaW.PrintLast

theorem FnExactIndependentNumbers : laws_FnExactIndependentNumbers.Pure := by
  intro l hm hl hw 
  refine Ev.rounds ?_
  unfold laws_FnExactIndependentNumbers.f
  by_cases hb : (l.length : Int) > 1048576
  · exact Ev.congr (fun _ => if_pos hb) (Ev.now _)
  refine Ev.congr (fun _ => if_neg hb) ?_
  have hS := specInd_ev l
  have hI := implInd_ev l hw
  have hL : (setsB_false l).1.length ≤ 1048576 := setsB_false_len l
  generalize setsB_false l = v at *
  obtain ⟨v, c⟩ := v
  refine Ev.bind (toS_ev l (by omega)) ?_
  refine Ev.bind hS ?_
  refine Ev.bind (toS_ev l (by omega)) ?_
  refine Ev.bind hI ?_
  have hL' : v.length ≤ 1048576 := hL
  refine Ev.bind (eqS_ev v v (by omega)) ?_
  refine Ev.congr (fun k => if_pos (decide_eq_true rfl)) ?_
  refine Ev_succ ?_
  simp only [laws_FnExactIndependentNumbers.j0, bne_self_eq_false, Bool.false_eq_true, if_false]
  refine Ev.bind (toS_ev l (by omega)) ?_
  refine Ev.bind (eqS_ev l l (by omega)) ?_
  refine Ev.congr (fun k => if_pos (decide_eq_true rfl)) ?_
  refine Ev.bind (mark_ev l (by omega)) ?_
  refine Ev.congr (fun k => if_neg (by show ¬ (((1 + l.length : Nat) : Int) < 0); omega)) ?_
  refine Ev.bind (eqS_ev v v (by omega)) ?_
  refine Ev.congr (fun k => if_pos (decide_eq_true rfl)) ?_
  refine Ev_succ ?_
  simp only [laws_FnExactIndependentNumbers.j1, Bool.false_eq_true, if_false]
  refine Ev.bind (mark_ev v (by omega)) ?_
  refine Ev.bind (held_ev v.length (by omega)) ?_
  refine Ev.congr (fun k => if_neg (by omega)) ?_
  refine Ev.congr (fun k => if_pos rfl) ?_
  refine Ev.bind (toS_ev l (by omega)) ?_
  refine Ev.bind hI ?_
  refine Ev.bind (eqS_ev v v (by omega)) ?_
  refine Ev.congr (fun k => if_pos (decide_eq_true rfl)) ?_
  refine Ev_succ ?_
  simp only [laws_FnExactIndependentNumbers.j2, bne_self_eq_false, Bool.false_eq_true, if_false]
  refine Ev.bind (held_ev v.length (by omega)) ?_
  refine Ev.congr (fun k => if_neg (by omega)) ?_
  exact Ev.congr (fun k => if_pos rfl) (Ev.now _)
end Go.Proofs.Ytfijnlbkflmkbaa.Pure
