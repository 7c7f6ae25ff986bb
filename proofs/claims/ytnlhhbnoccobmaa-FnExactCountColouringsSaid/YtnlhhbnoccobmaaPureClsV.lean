/- Plain laws: what the search for divisions leaves is the numbers of classes. -/
import Derived.Test.YtnlhhbnoccobmaaFx133
import Derived.Test.YtnlhhbnoccobmaaPureCls
import Derived.Test.YtnlhhbnoccobmaaPureE
namespace Go.Proofs.Ytnlhhbnoccobmaa.Pure
open Go.RowKit Go.Proofs.Ytnlhhbnoccobmaa.F Go.Proofs.Ytnlhhbnoccobmaa.Mem Go.Proofs.Ytnlhhbnoccobmaa.Chrom Go.Proofs.YtnlhhbnoccobmaaW.PrintWords Go.Proofs.YtnlhhbnoccobmaaW.PrintLast
set_option linter.unusedVariables false
set_option linter.unusedSimpArgs false

theorem cross_symC {w : List Int} (hw : Word w) {i k : Nat} (hi : i < w.length / 2) (hk : k < w.length / 2) : crossB w i k = crossB w k i := by
  by_cases e : i = k
  · rw [e]
  · have hp := places_ne hw e hi hk
    have li := places_lt (hw.count hi)
    have lk := places_lt (hw.count hk)
    unfold crossB
    rw [show (i == k) = false from by simpa using e, show (k == i) = false from by simpa using Ne.symm e]
    by_cases c1 : pA w i < pA w k <;> by_cases c2 : pA w k < pB w i <;> by_cases c3 : pA w i < pB w k <;> by_cases c4 : pB w k < pB w i <;>
      simp only [c1, c2, c3, c4, show (pA w k < pA w i) = ¬ (pA w i < pA w k) from by rw [eq_iff_iff]; omega, show (pB w i < pA w k) = ¬ (pA w k < pB w i) from by rw [eq_iff_iff]; omega, show (pB w k < pA w i) = ¬ (pA w i < pB w k) from by rw [eq_iff_iff]; omega, show (pB w i < pB w k) = ¬ (pB w k < pB w i) from by rw [eq_iff_iff]; omega, decide_true, decide_false, not_true_eq_false, not_false_eq_true, Bool.true_and, Bool.false_and, Bool.and_true, Bool.and_false, bne_self_eq_false, Bool.not_false] <;> first | rfl | decide | (exfalso; omega)
/-- The counts that impl.classes finds are the numbers of divisions. -/
theorem classV_eq (w : List Int) (hw : Word w) : classV w = clsOf (crossB w) (w.length / 2) ∧ Few 117649 (classV w) := by
  have hle := hw.le
  have h := clsP_of (fun i a => crossB w a i) (w.length / 2) (by omega)
  have e := clsOf_congr (X := fun i a => crossB w a i) (Y := crossB w) (w.length / 2) (fun i a hi ha => cross_symC hw ha hi)
  unfold classV
  rw [h.1]
  exact ⟨e, h.2⟩
end Go.Proofs.Ytnlhhbnoccobmaa.Pure
