/- Plain laws: what IndependentNumbers comes to on both sides. -/
import Derived.Test.YtfijnlbkflmkbaaFx59
import Derived.Test.YtfijnlbkflmkbaaFx60
import Derived.Test.YtfijnlbkflmkbaaPureSets
namespace Go.Proofs.Ytfijnlbkflmkbaa.Pure
open Go.RowKit Go.Proofs.Ytfijnlbkflmkbaa.F Go.Proofs.YtfijnlbkflmkbaaW.PrintWords Go.Proofs.YtfijnlbkflmkbaaW.PrintLast

def setsB_false (w : List Int) : List Int × Int := setsB false w
theorem setsB_false_len (w : List Int) : (setsB_false w).1.length ≤ 1048576 := setsB_len false w
theorem specInd_ev (w : List Int) : Ev (fun k => spec_IndependentNumbers.f k w) (setsB_false w) := by
  unfold spec_IndependentNumbers.f setsB_false setsB
  refine Ev.bind (code10_ev w [] (by simp)) ?_
  by_cases h : isW w = true
  · rw [if_pos h, if_pos h, if_pos (by simp)]
    refine Ev.congr (fun k => if_pos rfl) ?_
    exact Ev.bind (ssets_ev w ((isW_iff w).1 h) false) (Ev.now _)
  · rw [if_neg h, if_neg h]
    exact Ev.congr (fun k => if_neg (by decide)) (Ev.now _)
theorem implInd_ev (w : List Int) (hwf : ∀ x ∈ w, (Lit.int .i64 x).wf = true) : Ev (fun k => impl_IndependentNumbers.f k w) (setsB_false w) := by
  unfold impl_IndependentNumbers.f setsB_false setsB
  refine Ev.bind (isWord_ev w hwf) ?_
  by_cases h : isW w = true
  · rw [if_pos h, if_pos h]
    exact Ev.congr (fun k => by unfold impl_IndependentNumbers_1.f impl_setNumbers.f; rw [if_pos h]; rfl) (Ev.now _)
  · rw [if_neg h, if_neg h]
    exact Ev.now _
end Go.Proofs.Ytfijnlbkflmkbaa.Pure
