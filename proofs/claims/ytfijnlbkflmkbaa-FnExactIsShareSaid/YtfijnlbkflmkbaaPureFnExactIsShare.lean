/- The program's IsShare returns what the reference's returns: for every list and all places. -/
import Derived.Test.YtfijnlbkflmkbaaFgA
import Derived.Test.YtfijnlbkflmkbaaFx28
import Derived.Test.YtfijnlbkflmkbaaFx29
import Derived.Test.YtfijnlbkflmkbaaFx30
import Derived.Test.YtfijnlbkflmkbaaFx31
import Derived.Test.YtfijnlbkflmkbaaFx32
import Derived.Test.YtfijnlbkflmkbaaFx35
import Derived.Test.YtfijnlbkflmkbaaFx36
import Derived.Test.YtfijnlbkflmkbaaFx37
import Derived.Test.YtfijnlbkflmkbaaPureShare
namespace Go.Proofs.Ytfijnlbkflmkbaa.Pure
open Go.RowKit Go.Proofs.Ytfijnlbkflmkbaa.F Go.Proofs.YtfijnlbkflmkbaaW.PrintWords Go.Proofs.YtfijnlbkflmkbaaW.PrintLast

theorem FnExactIsShare : laws_FnExactIsShare.Pure := by
  intro l p q r s hm hl hw hp hq hr hs
  refine Ev.rounds ?_
  unfold laws_FnExactIsShare.f
  by_cases hb : (l.length : Int) > 1048576
  · exact Ev.congr (fun _ => if_pos hb) (Ev.now _)
  refine Ev.congr (fun _ => if_neg hb) ?_
  refine Ev.bind (toS_ev l (by omega)) ?_
  refine Ev.bind (specIsShare_ev l p q r s) ?_
  refine Ev.bind (toS_ev l (by omega)) ?_
  refine Ev.bind (implIsShare_ev l p q r s hw) ?_
  refine Ev.congr (fun k => if_neg (by simp)) ?_
  refine Ev.step (f := fun k => (laws_toInt64S.f k l).bind fun t276 => ((laws_eqInt64S.f k l t276).bind fun t279 => (if t279 = true then (some true) else (some false)))) (fun k => ?_) ?_
  · simp only [laws_FnExactIsShare.j0]; rw [if_neg (by simp)]
  refine Ev.bind (toS_ev l (by omega)) ?_
  refine Ev.bind (eqS_ev l l (by omega)) ?_
  exact Ev.congr (fun k => by simp) (Ev.now _)
end Go.Proofs.Ytfijnlbkflmkbaa.Pure
