/- The program's LoopsOfWeb returns what the reference's returns: for all arguments. -/
import Derived.Test.YtnlhhbnoccobmaaFx14
import Derived.Test.YtnlhhbnoccobmaaFx60
import Derived.Test.YtnlhhbnoccobmaaFx61
import Derived.Test.YtnlhhbnoccobmaaPureWebBoth
import Derived.Test.YtnlhhbnoccobmaaPureWebCount
namespace Go.Proofs.Ytnlhhbnoccobmaa.Pure
open Go.RowKit Go.Proofs.Ytnlhhbnoccobmaa.F Go.Proofs.Ytnlhhbnoccobmaa.Web Go.Proofs.Ytnlhhbnoccobmaa.Mem Go.Proofs.YtnlhhbnoccobmaaW.PrintWords Go.Proofs.YtnlhhbnoccobmaaW.PrintLast
set_option linter.unusedVariables false
set_option linter.unusedSimpArgs false

theorem specLoopsOfWeb_ev {l : List Int} {L : List (List Int)} (hl : l.length ≤ 1048576) (hL : Small L) : Ev (fun k => spec_LoopsOfWeb.f k l L) (if isWebC l L = true then ((((l.length + 3 * L.length) / 2 : Nat) : Int) - ((l.length + L.length : Nat) : Int) + ((rootsC l L : Nat) : Int)) else 0, if isWebC l L = true then 0 else 1) := by
  unfold spec_LoopsOfWeb.f
  refine Ev.bind (specIs_C hl hL) ?_
  cases h : isWebC l L with
  | false => exact Ev.congr (fun k => if_neg (by simp)) (Ev.now _)
  | true =>
    refine Ev.congr (fun k => if_pos rfl) ?_
    refine Ev.bind (wcount_ev h) ?_
    have h8 := (web_of h).1
    have hr := rootsC_le l L
    have e1 : wrap64 ((l.length : Int) + wrap64 (3 * (L.length : Int))) = ((l.length + 3 * L.length : Nat) : Int) := by unfold wrap64; omega
    have e2 : wrap64 ((l.length : Int) + (L.length : Int)) = ((l.length + L.length : Nat) : Int) := by unfold wrap64; omega
    rw [e1, e2, Int.tdiv_eq_ediv_of_nonneg (by omega)]
    have e3 : wrap64 (((l.length + 3 * L.length : Nat) : Int) / 2) = (((l.length + 3 * L.length) / 2 : Nat) : Int) := by unfold wrap64; omega
    rw [e3]
    have e4 : wrap64 (wrap64 ((((l.length + 3 * L.length) / 2 : Nat) : Int) - ((l.length + L.length : Nat) : Int)) + ((rootsC l L : Nat) : Int)) = ((((l.length + 3 * L.length) / 2 : Nat) : Int) - ((l.length + L.length : Nat) : Int) + ((rootsC l L : Nat) : Int)) := by unfold wrap64; omega
    rw [e4]
    exact Ev.now _
theorem FnExactLoopsOfWeb (l : List Int) (L : List (List Int)) (m0 : l.length ≤ maxLen) (m1 : L.length ≤ maxLen) (w0 : ∀ x ∈ l, (Lit.int .i64 x).wf = true) (w1 : ∀ m ∈ L, m.length ≤ maxLen ∧ ∀ x ∈ m, (Lit.int .i64 x).wf = true) : ∃ k, laws_FnExactLoopsOfWeb.f k l L = some true := by
  refine Ev.rounds ?_
  unfold laws_FnExactLoopsOfWeb.f
  obtain ⟨t, ht, hq⟩ := szWeb_ev l L m0 m1 (fun m hm => (w1 m hm).1)
  refine Ev.bind ht ?_
  by_cases g : t < 0
  · exact Ev.congr (fun k => if_pos g) (Ev.now _)
  · refine Ev.congr (fun k => if_neg g) ?_
    obtain ⟨hl, hL⟩ := hq (by omega)
    have hLl := hL.len
    refine Ev.bind (toWeb_ev hl hL) (Ev.bind (specLoopsOfWeb_ev hl hL) (Ev.bind (toWeb_ev hl hL) ?_))
    have hI : impl_LoopsOfWeb.f l L = some (if isWebC l L = true then ((((l.length + 3 * L.length) / 2 : Nat) : Int) - ((l.length + L.length : Nat) : Int) + ((rootsC l L : Nat) : Int)) else 0, if isWebC l L = true then 0 else 1) := by
      unfold impl_LoopsOfWeb.f; rw [if_pos ⟨by omega, by omega, wf_inc w0 (fun m hm => (w1 m hm).2)⟩]
    simp only [hI, Option.bind_some]
    refine Ev.congr (fun k => if_pos trivial) ?_
    refine Ev_succ ?_
    simp only [laws_FnExactLoopsOfWeb.j0, bne_self_eq_false, Bool.false_eq_true, if_false]
    refine Ev.bind (toWeb_ev hl hL) (Ev.bind (eqWeb_same hl hL) ?_)
    exact Ev.congr (fun k => if_pos rfl) (Ev.now _)
end Go.Proofs.Ytnlhhbnoccobmaa.Pure
