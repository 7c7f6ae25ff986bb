/- Plain laws: what CountColourings comes to, on both sides. -/
import Derived.Test.YtnlhhbnoccobmaaFx115
import Derived.Test.YtnlhhbnoccobmaaFx119
import Derived.Test.YtnlhhbnoccobmaaFx121
import Derived.Test.YtnlhhbnoccobmaaFx40
import Derived.Test.YtnlhhbnoccobmaaFx41
import Derived.Test.YtnlhhbnoccobmaaPurePoly
import Derived.Test.YtnlhhbnoccobmaaPureD
namespace Go.Proofs.Ytnlhhbnoccobmaa.Pure
open Go.RowKit Go.Proofs.Ytnlhhbnoccobmaa.F Go.Proofs.Ytnlhhbnoccobmaa.Mem Go.Proofs.Ytnlhhbnoccobmaa.Chrom Go.Proofs.YtnlhhbnoccobmaaW.PrintWords Go.Proofs.YtnlhhbnoccobmaaW.PrintLast
set_option linter.unusedVariables false
set_option linter.unusedSimpArgs false
theorem value_ev (l : List Int) (x : Int) (hl : l.length ≤ 1048576) : Ev (fun k => spec_l10Value.f k l x) (valS x (backTo l l.length)) := by
  have key : ∀ k' d, d + k' = l.length → Ev (fun k => spec_l10Value.l0 k l x (valS x (backTo l d)) ((k' : Int) - 1)) (valS x (backTo l l.length)) := by
    intro k'
    induction k' with
    | zero =>
      intro d hd
      obtain rfl : d = l.length := by omega
      refine Ev_succ ?_
      simp only [spec_l10Value.l0]
      exact Ev.congr (fun k => if_neg (by omega)) (Ev.now _)
    | succ k' ih =>
      intro d hd
      have e : (((k' + 1 : Nat) : Int) - 1) = (k' : Int) := by omega
      rw [e]
      refine Ev_succ ?_
      simp only [spec_l10Value.l0]
      refine Ev.congr (fun k => if_pos (by omega)) (Ev.congr (fun k => if_pos (by omega)) (Ev.congr (fun k => if_pos (by omega)) ?_))
      have h := ih (d + 1) (by omega)
      rw [backTo, valS_snoc, show l.length - 1 - d = k' from by omega] at h
      rw [rdN, show wrap64 ((k' : Int) - 1) = (k' : Int) - 1 from by unfold wrap64; omega]
      exact h
  unfold spec_l10Value.f
  rw [show wrap64 ((l.length : Int) - 1) = (l.length : Int) - 1 from by unfold wrap64; omega]
  exact key l.length 0 (by omega)
def countV (l : List Int) (a : Int) : Int × Int := if isW l = true then (if decide (0 ≤ a ∧ a ≤ 8) = true then (valS a (backTo (polyV l) (polyV l).length), 0) else (0, 2)) else (0, 1)
theorem specCount_ev (l : List Int) (a : Int) : Ev (fun k => spec_CountColourings.f k l a) (countV l a) := by
  unfold spec_CountColourings.f countV
  refine Ev.bind (is_ev l) ?_
  by_cases h : isW l = true
  · rw [if_pos h]
    refine Ev.congr (fun k => if_pos h) ?_
    simp only [spec_in_f, Option.bind_some]
    by_cases g : decide (0 ≤ a ∧ a ≤ 8) = true
    · rw [if_pos g]
      refine Ev.congr (fun k => if_pos g) ?_
      rw [show spec_l10Polynomial.f l = some (polyV l) from by unfold spec_l10Polynomial.f; rw [if_pos h]]
      exact Ev.bind (Ev.now _) (Ev.bind (value_ev (polyV l) a (polyV_le l h)) (Ev.now _))
    · rw [if_neg g]
      exact Ev.congr (fun k => if_neg g) (Ev.now _)
  · rw [if_neg h]
    exact Ev.congr (fun k => if_neg h) (Ev.now _)
theorem implCount_ev (l : List Int) (a : Int) (hw : ∀ x ∈ l, (Lit.int .i64 x).wf = true) : Ev (fun k => impl_CountColourings.f k l a) (countV l a) := by
  unfold impl_CountColourings.f countV
  refine Ev.bind (isWord_ev l hw) ?_
  by_cases h : isW l = true
  · rw [if_pos h]
    refine Ev.congr (fun k => if_pos h) ?_
    simp only [in_f, Option.bind_some]
    by_cases g : decide (0 ≤ a ∧ a ≤ 8) = true
    · rw [if_pos g]
      refine Ev.congr (fun k => if_pos g) ?_
      refine Ev.bind (colour_poly l ((isW_iff l).1 h) h) ?_
      have := polyV_le l h
      rw [show impl_valueAt.f (polyV l) a = some (valS a (backTo (polyV l) (polyV l).length)) from by unfold impl_valueAt.f; rw [if_pos (by omega)]]
      exact Ev.now _
    · rw [if_neg g]
      exact Ev.congr (fun k => if_neg g) (Ev.now _)
  · rw [if_neg h]
    exact Ev.congr (fun k => if_neg h) (Ev.now _)
end Go.Proofs.Ytnlhhbnoccobmaa.Pure
