/- Plain laws: what ColouringPolynomial comes to on the reference's side. -/
import Derived.Test.YtnlhhbnoccobmaaFx114
import Derived.Test.YtnlhhbnoccobmaaFx115
import Derived.Test.YtnlhhbnoccobmaaFx34
import Derived.Test.YtnlhhbnoccobmaaPurePoly
import Derived.Test.YtnlhhbnoccobmaaPureD
namespace Go.Proofs.Ytnlhhbnoccobmaa.Pure
open Go.RowKit Go.Proofs.Ytnlhhbnoccobmaa.F Go.Proofs.Ytnlhhbnoccobmaa.Mem Go.Proofs.Ytnlhhbnoccobmaa.Chrom Go.Proofs.YtnlhhbnoccobmaaW.PrintWords Go.Proofs.YtnlhhbnoccobmaaW.PrintLast
set_option linter.unusedVariables false
set_option linter.unusedSimpArgs false
theorem specPoly_f (w : List Int) (h : isW w = true) : spec_l10Polynomial.f w = some (polyV w) := by unfold spec_l10Polynomial.f; rw [if_pos h]
theorem specCol_ev (w : List Int) : Ev (fun k => spec_ColouringPolynomial.f k w) (colV w) := by
  unfold spec_ColouringPolynomial.f colV
  refine Ev.bind (code10_ev w [] (by simp)) ?_
  by_cases h : isW w = true
  · rw [if_pos h, if_pos h, if_pos (by simp)]
    refine Ev.congr (f := fun _ => some (polyV w, 0)) (fun k => ?_) (Ev.now _)
    (try rw [if_pos rfl]); rw [specPoly_f w h]
    rfl
  · rw [if_neg h, if_neg h]
    exact Ev.congr (f := fun _ => some ([], 1)) (fun k => by rw [if_neg (by decide)]) (Ev.now _)
end Go.Proofs.Ytnlhhbnoccobmaa.Pure
