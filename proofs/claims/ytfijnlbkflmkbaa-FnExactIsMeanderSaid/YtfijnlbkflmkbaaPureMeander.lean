/- Plain laws: both sides tell meanders alike. -/
import Derived.Test.YtfijnlbkflmkbaaFx109
import Derived.Test.YtfijnlbkflmkbaaFx110
import Derived.Test.YtfijnlbkflmkbaaPureCurves
import Derived.Test.YtfijnlbkflmkbaaPureFlat
namespace Go.Proofs.Ytfijnlbkflmkbaa.Pure
open Go.RowKit Go.Proofs.Ytfijnlbkflmkbaa.F Go.Proofs.YtfijnlbkflmkbaaW.PrintWords Go.Proofs.YtfijnlbkflmkbaaW.PrintLast

theorem isMeander_both (a b : List Int) (ha : ∀ x ∈ a, (Lit.int .i64 x).wf = true) (hb : ∀ x ∈ b, (Lit.int .i64 x).wf = true) : ∃ v : Bool × Int, Ev (fun k => spec_IsMeander.f k a b) v ∧ Ev (fun k => impl_IsMeander.f k a b) v := by
  unfold spec_IsMeander.f impl_IsMeander.f
  by_cases h : code2 a b = 0
  · have hc := h
    unfold code2 at hc
    by_cases h1 : isW a = true ∧ isW b = true
    · rw [if_pos h1] at hc
      by_cases h2 : a.length = b.length
      · have wa := (isW_iff a).1 h1.1
        have wb := (isW_iff b).1 h1.2
        obtain ⟨r, e1, e2⟩ := curves_ev a b wa wb h2
        have pa := plain_ev a wa
        have pb := plain_ev b wb
        have fa := flat_f a h1.1
        have fb := flat_f b h1.2
        generalize plainFrom a 0 (a.length / 2) = xa at *
        generalize plainFrom b 0 (b.length / 2) = xb at *
        cases xa with
        | false =>
          refine ⟨(false, 0), ?_, ?_⟩
          · exact Ev.bind (two_ev a b) (Ev.congr (fun k => if_pos h) (Ev.bind pa (Ev.congr (fun k => if_neg (by simp)) (Ev.now _))))
          · exact Ev.congr (fun k => by rw [fault_f a b ha hb, Option.bind_some, if_pos h, fa, Option.bind_some, if_neg (by simp)]) (Ev.now _)
        | true =>
          cases xb with
          | false =>
            refine ⟨(false, 0), ?_, ?_⟩
            · exact Ev.bind (two_ev a b) (Ev.congr (fun k => if_pos h) (Ev.bind pa (Ev.congr (fun k => if_pos rfl) (Ev.bind pb (Ev.congr (fun k => if_neg (by simp)) (Ev.now _))))))
            · exact Ev.congr (fun k => by rw [fault_f a b ha hb, Option.bind_some, if_pos h, fa, Option.bind_some, if_pos rfl, fb, Option.bind_some, if_neg (by simp)]) (Ev.now _)
          | true =>
            refine ⟨(r == 1, 0), ?_, ?_⟩
            · exact Ev.bind (two_ev a b) (Ev.congr (fun k => if_pos h) (Ev.bind pa (Ev.congr (fun k => if_pos rfl) (Ev.bind pb (Ev.congr (fun k => if_pos rfl) (Ev.bind e1 (Ev.now _)))))))
            · exact Ev.congr (fun k => by rw [fault_f a b ha hb, Option.bind_some, if_pos h, fa, Option.bind_some, if_pos rfl, fb, Option.bind_some, if_pos rfl]) (Ev.bind e2 (Ev.now _))
      · rw [if_neg h2] at hc; exact absurd hc (by decide)
    · rw [if_neg h1] at hc; exact absurd hc (by decide)
  · refine ⟨(false, code2 a b), ?_, ?_⟩
    · exact Ev.bind (two_ev a b) (Ev.congr (fun k => if_neg h) (Ev.now _))
    · exact Ev.congr (fun k => by rw [fault_f a b ha hb, Option.bind_some, if_neg h]) (Ev.now _)
end Go.Proofs.Ytfijnlbkflmkbaa.Pure
