/- Plain laws: what AreAlike comes to on both sides. -/
import Derived.Test.YtfijnlbkflmkbaaFx134
import Derived.Test.YtfijnlbkflmkbaaFx135
import Derived.Test.YtfijnlbkflmkbaaFx73
import Derived.Test.YtfijnlbkflmkbaaFx74
import Derived.Test.YtfijnlbkflmkbaaPureCode
namespace Go.Proofs.Ytfijnlbkflmkbaa.Pure
open Go.RowKit Go.Proofs.Ytfijnlbkflmkbaa.F Go.Proofs.Ytfijnlbkflmkbaa.Mem Go.Proofs.YtfijnlbkflmkbaaW.PrintWords Go.Proofs.YtfijnlbkflmkbaaW.PrintLast
set_option linter.unusedVariables false
set_option linter.unusedSimpArgs false

/-- Whether two words are alike. -/
def alkV (a b : List Int) : Bool × Int := if isW a = true ∧ isW b = true then (decide (a.length = b.length ∧ codeV a = codeV b), 0) else (false, 1)
theorem specAlk_ev (a b : List Int) : Ev (fun k => spec_AreAlike.f k a b) (alkV a b) := by
  unfold spec_AreAlike.f alkV
  have hj : ∀ x, x = true → Ev (fun k => spec_AreAlike.j0 k a b x) (false, 1) := fun x hx => by
    subst hx
    refine Ev.step (f := fun _ => some (false, 1)) (fun k => ?_) (Ev.now _)
    simp only [spec_AreAlike.j0, if_true]
  refine Ev.bind (is_ev a) ?_
  by_cases h1 : isW a = true
  · refine Ev.congr (f := fun k => (spec_l01Is.f k b).bind fun t => spec_AreAlike.j0 k a b (!t)) (fun k => if_pos h1) ?_
    refine Ev.bind (is_ev b) ?_
    by_cases h2 : isW b = true
    · rw [h2, if_pos ⟨h1, rfl⟩]
      refine Ev_succ ?_
      simp only [spec_AreAlike.j0, Bool.not_true, Bool.false_eq_true, if_false]
      by_cases e : a.length = b.length
      · refine Ev.congr (fun k => if_pos (by omega)) ?_
        refine Ev.bind (scode_ev a ((isW_iff a).1 h1)) ?_
        refine Ev.bind (scode_ev b ((isW_iff b).1 h2)) ?_
        have hc := codeV_len h1
        refine Ev.bind (same_ev _ _ (by omega)) ?_
        rw [show decide (a.length = b.length ∧ codeV a = codeV b) = decide (codeV a = codeV b) from by simp [e]]
        exact Ev.now _
      · rw [decide_eq_false (fun h => e h.1)]
        exact Ev.congr (fun k => if_neg (by omega)) (Ev.now _)
    · rw [if_neg (fun h => h2 h.2)]
      exact hj _ (by simpa using h2)
  · rw [if_neg (fun h => h1 h.1)]
    exact Ev.congr (fun k => if_neg h1) (hj true rfl)
theorem implAlk_ev (a b : List Int) (ha : ∀ x ∈ a, (Lit.int .i64 x).wf = true) (hb : ∀ x ∈ b, (Lit.int .i64 x).wf = true) : Ev (fun k => impl_AreAlike.f k a b) (alkV a b) := by
  unfold impl_AreAlike.f impl_invalid.f alkV
  have hwf : ([a, b] : List (List Int)).all wfL = true := by
    simp only [List.all_cons, List.all_nil, Bool.and_true, Bool.and_eq_true]
    exact ⟨List.all_eq_true.2 ha, List.all_eq_true.2 hb⟩
  refine Ev.congr (fun k => by rw [if_pos ⟨hwf, by simp⟩, Option.bind_some]) ?_
  by_cases h : isW a = true ∧ isW b = true
  · rw [show ([a, b] : List (List Int)).all isW = true from by simp [h.1, h.2], if_pos h, if_pos rfl]
    refine Ev.congr (fun k => if_pos rfl) ?_
    unfold impl_alike.f impl_code.f
    rw [if_pos h.1, if_pos h.2]
    by_cases e : a.length = b.length
    · refine Ev.bind (a := decide (a.length = b.length ∧ codeV a = codeV b)) ?_ (Ev.now _)
      refine Ev.congr (fun k => if_pos (by omega)) ?_
      refine Ev.congr (fun k => by rw [Option.bind_some, Option.bind_some]) ?_
      have hc := codeV_len h.1
      refine Ev.bind (equal_ev _ _ (by omega)) ?_
      rw [show decide (a.length = b.length ∧ codeV a = codeV b) = decide (codeV a = codeV b) from by simp [e]]
      exact Ev.now _
    · rw [decide_eq_false (fun h => e h.1)]
      exact Ev.congr (fun k => by rw [if_neg (by omega), Option.bind_some]) (Ev.now _)
  · have : ([a, b] : List (List Int)).all isW = false := by
      rw [Bool.eq_false_iff]; intro g
      simp only [List.all_cons, List.all_nil, Bool.and_true, Bool.and_eq_true] at g
      exact h g
    rw [this, if_neg h]
    exact Ev.congr (fun k => if_neg (by simp)) (Ev.now _)
theorem areAlike_both (a b : List Int) (ha : ∀ x ∈ a, (Lit.int .i64 x).wf = true) (hb : ∀ x ∈ b, (Lit.int .i64 x).wf = true) : ∃ v : Bool × Int, Ev (fun k => spec_AreAlike.f k a b) v ∧ Ev (fun k => impl_AreAlike.f k a b) v :=
  ⟨alkV a b, specAlk_ev a b, implAlk_ev a b ha hb⟩
end Go.Proofs.Ytfijnlbkflmkbaa.Pure
