/- The program's IsWeb returns what the reference's returns: for all arguments. -/
import Derived.Test.YtnlhhbnoccobmaaFx19
import Derived.Test.YtnlhhbnoccobmaaFx21
import Derived.Test.YtnlhhbnoccobmaaFx3
import Derived.Test.YtnlhhbnoccobmaaPureWebLaw
import Derived.Test.YtnlhhbnoccobmaaPureWebSpec
import Derived.Test.YtnlhhbnoccobmaaPureWebC
namespace Go.Proofs.Ytnlhhbnoccobmaa.Pure
open Go.RowKit Go.Proofs.Ytnlhhbnoccobmaa.F Go.Proofs.Ytnlhhbnoccobmaa.Web Go.Proofs.YtnlhhbnoccobmaaW.PrintWords Go.Proofs.YtnlhhbnoccobmaaW.PrintLast

theorem wf_inc {l : List Int} {L : List (List Int)} (w0 : ∀ x ∈ l, (Lit.int .i64 x).wf = true) (w1 : ∀ m ∈ L, ∀ x ∈ m, (Lit.int .i64 x).wf = true) : wfW l L = true := by
  unfold wfW
  rw [List.all_eq_true]
  intro p hp
  rcases mem_inc.1 (show (p.1, p.2) ∈ inc l L from hp) with h | ⟨_, f, hf, he⟩
  · exact w0 _ (List.mem_of_getElem? h)
  · exact w1 f (List.mem_of_getElem? hf) _ he
theorem isWeb_f {l : List Int} {L : List (List Int)} (hl : l.length ≤ 1048576) (hL : Small L) (w0 : ∀ x ∈ l, (Lit.int .i64 x).wf = true) (w1 : ∀ m ∈ L, ∀ x ∈ m, (Lit.int .i64 x).wf = true) : impl_IsWeb.f l L = some (isWebC l L) := by
  have := hL.len
  unfold impl_IsWeb.f
  rw [if_pos ⟨by omega, by omega, wf_inc w0 w1⟩]
theorem specIsWeb_ev {l : List Int} {L : List (List Int)} (hl : l.length ≤ 1048576) (hL : Small L) : Ev (fun k => spec_IsWeb.f k l L) (isWebC l L) := by
  have := hL.len
  unfold spec_IsWeb.f
  rw [isWebC_eq]
  exact Ev.bind (specIs_ev l L (by omega) (by omega)) (Ev.now _)
theorem FnExactIsWeb (l : List Int) (L : List (List Int)) (m0 : l.length ≤ maxLen) (m1 : L.length ≤ maxLen) (w0 : ∀ x ∈ l, (Lit.int .i64 x).wf = true) (w1 : ∀ m ∈ L, m.length ≤ maxLen ∧ ∀ x ∈ m, (Lit.int .i64 x).wf = true) : ∃ k, laws_FnExactIsWeb.f k l L = some true := by
  refine Ev.rounds ?_
  unfold laws_FnExactIsWeb.f
  obtain ⟨t, ht, hq⟩ := szWeb_ev l L m0 m1 (fun m hm => (w1 m hm).1)
  refine Ev.bind ht ?_
  by_cases g : t < 0
  · exact Ev.congr (fun k => if_pos g) (Ev.now _)
  · refine Ev.congr (fun k => if_neg g) ?_
    obtain ⟨hl, hL⟩ := hq (by omega)
    refine Ev.bind (toWeb_ev hl hL) (Ev.bind (specIsWeb_ev hl hL) (Ev.bind (toWeb_ev hl hL) ?_))
    rw [isWeb_f hl hL w0 (fun m hm => (w1 m hm).2)]
    simp only [Option.bind_some, bne_self_eq_false, Bool.false_eq_true, if_false]
    refine Ev.bind (toWeb_ev hl hL) (Ev.bind (eqWeb_same hl hL) ?_)
    exact Ev.congr (fun k => if_pos rfl) (Ev.now _)
end Go.Proofs.Ytnlhhbnoccobmaa.Pure
