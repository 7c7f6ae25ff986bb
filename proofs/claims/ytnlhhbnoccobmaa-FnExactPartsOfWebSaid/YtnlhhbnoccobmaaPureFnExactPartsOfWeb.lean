/- The program's PartsOfWeb returns what the reference's returns: for all arguments. -/
import Derived.Test.YtnlhhbnoccobmaaFx13
import Derived.Test.YtnlhhbnoccobmaaFx58
import Derived.Test.YtnlhhbnoccobmaaFx59
import Derived.Test.YtnlhhbnoccobmaaPureWebBoth
import Derived.Test.YtnlhhbnoccobmaaPureWebCount
namespace Go.Proofs.Ytnlhhbnoccobmaa.Pure
open Go.RowKit Go.Proofs.Ytnlhhbnoccobmaa.F Go.Proofs.Ytnlhhbnoccobmaa.Web Go.Proofs.Ytnlhhbnoccobmaa.Mem Go.Proofs.YtnlhhbnoccobmaaW.PrintWords Go.Proofs.YtnlhhbnoccobmaaW.PrintLast
set_option linter.unusedVariables false
set_option linter.unusedSimpArgs false

theorem specPartsOfWeb_ev {l : List Int} {L : List (List Int)} (hl : l.length ≤ 1048576) (hL : Small L) : Ev (fun k => spec_PartsOfWeb.f k l L) (if isWebC l L = true then ((rootsC l L : Nat) : Int) else 0, if isWebC l L = true then 0 else 1) := by
  unfold spec_PartsOfWeb.f
  refine Ev.bind (specIs_C hl hL) ?_
  cases h : isWebC l L with
  | false => exact Ev.congr (fun k => if_neg (by simp)) (Ev.now _)
  | true =>
    refine Ev.congr (fun k => if_pos rfl) ?_
    exact Ev.bind (wcount_ev h) (Ev.now _)
theorem FnExactPartsOfWeb (l : List Int) (L : List (List Int)) (m0 : l.length ≤ maxLen) (m1 : L.length ≤ maxLen) (w0 : ∀ x ∈ l, (Lit.int .i64 x).wf = true) (w1 : ∀ m ∈ L, m.length ≤ maxLen ∧ ∀ x ∈ m, (Lit.int .i64 x).wf = true) : ∃ k, laws_FnExactPartsOfWeb.f k l L = some true := by
  refine Ev.rounds ?_
  unfold laws_FnExactPartsOfWeb.f
  obtain ⟨t, ht, hq⟩ := szWeb_ev l L m0 m1 (fun m hm => (w1 m hm).1)
  refine Ev.bind ht ?_
  by_cases g : t < 0
  · exact Ev.congr (fun k => if_pos g) (Ev.now _)
  · refine Ev.congr (fun k => if_neg g) ?_
    obtain ⟨hl, hL⟩ := hq (by omega)
    have hLl := hL.len
    refine Ev.bind (toWeb_ev hl hL) (Ev.bind (specPartsOfWeb_ev hl hL) (Ev.bind (toWeb_ev hl hL) ?_))
    have hI : impl_PartsOfWeb.f l L = some (if isWebC l L = true then ((rootsC l L : Nat) : Int) else 0, if isWebC l L = true then 0 else 1) := by
      unfold impl_PartsOfWeb.f; rw [if_pos ⟨by omega, by omega, wf_inc w0 (fun m hm => (w1 m hm).2)⟩]
    simp only [hI, Option.bind_some]
    refine Ev.congr (fun k => if_pos trivial) ?_
    refine Ev_succ ?_
    simp only [laws_FnExactPartsOfWeb.j0, bne_self_eq_false, Bool.false_eq_true, if_false]
    refine Ev.bind (toWeb_ev hl hL) (Ev.bind (eqWeb_same hl hL) ?_)
    exact Ev.congr (fun k => if_pos rfl) (Ev.now _)
end Go.Proofs.Ytnlhhbnoccobmaa.Pure
