/- The program's ColouringPolynomial returns what the reference's returns: for all arguments. -/
import Derived.Test.YtnlhhbnoccobmaaFx34
import Derived.Test.YtnlhhbnoccobmaaFx36
import Derived.Test.YtnlhhbnoccobmaaFx7
import Derived.Test.YtnlhhbnoccobmaaPureColP
import Derived.Test.YtnlhhbnoccobmaaPureD
namespace Go.Proofs.Ytnlhhbnoccobmaa.Pure
open Go.RowKit Go.Proofs.Ytnlhhbnoccobmaa.F Go.Proofs.YtnlhhbnoccobmaaW.PrintWords Go.Proofs.YtnlhhbnoccobmaaW.PrintLast

theorem FnExactColouringPolynomial : laws_FnExactColouringPolynomial.Pure := by
  intro l hm hl hw 
  refine Ev.rounds ?_
  unfold laws_FnExactColouringPolynomial.f
  by_cases hb : (l.length : Int) > 1048576
  · exact Ev.congr (fun _ => if_pos hb) (Ev.now _)
  refine Ev.congr (fun _ => if_neg hb) ?_
  have hS := specCol_ev l
  have hI := implCol_ev l hw
  have hL : (colV l).1.length ≤ 1048576 := colV_len l
  generalize colV l = v at *
  obtain ⟨v, c⟩ := v
  refine Ev.bind (toS_ev l (by omega)) ?_
  refine Ev.bind hS ?_
  refine Ev.bind (toS_ev l (by omega)) ?_
  refine Ev.bind hI ?_
  have hL' : v.length ≤ 1048576 := hL
  refine Ev.bind (eqS_ev v v (by omega)) ?_
  refine Ev.congr (fun k => if_pos (decide_eq_true rfl)) ?_
  refine Ev_succ ?_
  simp only [laws_FnExactColouringPolynomial.j0, bne_self_eq_false, Bool.false_eq_true, if_false]
  refine Ev.bind (toS_ev l (by omega)) ?_
  refine Ev.bind (eqS_ev l l (by omega)) ?_
  refine Ev.congr (fun k => if_pos (decide_eq_true rfl)) ?_
  refine Ev.bind (mark_ev l (by omega)) ?_
  refine Ev.congr (fun k => if_neg (by show ¬ (((1 + l.length : Nat) : Int) < 0); omega)) ?_
  refine Ev.bind (eqS_ev v v (by omega)) ?_
  refine Ev.congr (fun k => if_pos (decide_eq_true rfl)) ?_
  refine Ev_succ ?_
  simp only [laws_FnExactColouringPolynomial.j1, Bool.false_eq_true, if_false]
  refine Ev.bind (mark_ev v (by omega)) ?_
  refine Ev.bind (held_ev v.length (by omega)) ?_
  refine Ev.congr (fun k => if_neg (by omega)) ?_
  refine Ev.congr (fun k => if_pos rfl) ?_
  refine Ev.bind (toS_ev l (by omega)) ?_
  refine Ev.bind hI ?_
  refine Ev.bind (eqS_ev v v (by omega)) ?_
  refine Ev.congr (fun k => if_pos (decide_eq_true rfl)) ?_
  refine Ev_succ ?_
  simp only [laws_FnExactColouringPolynomial.j2, bne_self_eq_false, Bool.false_eq_true, if_false]
  refine Ev.bind (held_ev v.length (by omega)) ?_
  refine Ev.congr (fun k => if_neg (by omega)) ?_
  exact Ev.congr (fun k => if_pos rfl) (Ev.now _)
end Go.Proofs.Ytnlhhbnoccobmaa.Pure
