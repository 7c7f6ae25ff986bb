/- The program's CountColourings returns what the reference's returns: for all arguments. -/
import Derived.Test.YtnlhhbnoccobmaaFx40
import Derived.Test.YtnlhhbnoccobmaaFx41
import Derived.Test.YtnlhhbnoccobmaaFx8
import Derived.Test.YtnlhhbnoccobmaaPureCount
import Derived.Test.YtnlhhbnoccobmaaPureD
namespace Go.Proofs.Ytnlhhbnoccobmaa.Pure
open Go.RowKit Go.Proofs.Ytnlhhbnoccobmaa.F Go.Proofs.YtnlhhbnoccobmaaW.PrintWords Go.Proofs.YtnlhhbnoccobmaaW.PrintLast

theorem FnExactCountColourings : laws_FnExactCountColourings.Pure := by
  intro l a1 hm hl hw ha1
  refine Ev.rounds ?_
  unfold laws_FnExactCountColourings.f
  by_cases hb : (l.length : Int) > 1048576
  · exact Ev.congr (fun _ => if_pos hb) (Ev.now _)
  refine Ev.congr (fun _ => if_neg hb) ?_
  have hS := specCount_ev l a1
  have hI := implCount_ev l a1 hw
  generalize countV l a1 = v at *
  obtain ⟨v, c⟩ := v
  refine Ev.bind (toS_ev l (by omega)) ?_
  refine Ev.bind hS ?_
  refine Ev.bind (toS_ev l (by omega)) ?_
  refine Ev.bind hI ?_
  refine Ev.congr (fun k => if_pos rfl) ?_
  refine Ev_succ ?_
  simp only [laws_FnExactCountColourings.j0, bne_self_eq_false, Bool.false_eq_true, if_false]
  refine Ev.bind (toS_ev l (by omega)) ?_
  refine Ev.bind (eqS_ev l l (by omega)) ?_
  exact Ev.congr (fun k => if_pos (decide_eq_true rfl)) (Ev.now _)
end Go.Proofs.Ytnlhhbnoccobmaa.Pure
