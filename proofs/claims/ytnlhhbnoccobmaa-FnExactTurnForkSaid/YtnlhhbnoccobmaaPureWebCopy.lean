/- Plain laws: webs copied on both sides, marked and held. -/
import Derived.Test.YtnlhhbnoccobmaaFx110
import Derived.Test.YtnlhhbnoccobmaaFx111
import Derived.Test.YtnlhhbnoccobmaaFx112
import Derived.Test.YtnlhhbnoccobmaaFx33
import Derived.Test.YtnlhhbnoccobmaaPureWebBoth
import Derived.Test.YtnlhhbnoccobmaaPureMarkSS
namespace Go.Proofs.Ytnlhhbnoccobmaa.Pure
open Go.RowKit Go.Proofs.Ytnlhhbnoccobmaa.F Go.Proofs.Ytnlhhbnoccobmaa.Web Go.Proofs.Ytnlhhbnoccobmaa.Mem Go.Proofs.YtnlhhbnoccobmaaW.PrintWords Go.Proofs.YtnlhhbnoccobmaaW.PrintLast
set_option linter.unusedVariables false
set_option linter.unusedSimpArgs false

theorem ownS_f (x : List Int) (h : x.length ≤ 1048576) : spec_l01Own.f x = some x := by
  unfold spec_l01Own.f
  simp only [Option.bind_some, List.length_nil, List.nil_append]
  rw [if_pos (by omega)]
theorem clone_f (x : List Int) (h : x.length ≤ 1048576) : slices_Clone_int64_int64.f x = some x := by
  unfold slices_Clone_int64_int64.f; rw [if_pos (by omega)]
theorem copy_ev (l : List Int) (L : List (List Int)) (hl : l.length ≤ 1048576) (hL : Small L) : Ev (fun k => spec_l06Copy.f k l L) (l, L) := by
  have hLl := hL.len
  have key : ∀ d i, i + d = L.length → Ev (fun k => spec_l06Copy.l0 k (i : Int) l L l (L.take i)) (l, L) := by
    intro d
    induction d with
    | zero =>
      intro i hi
      refine Ev_succ ?_
      simp only [spec_l06Copy.l0]
      rw [List.take_of_length_le (by omega)]
      exact Ev.congr (fun k => if_neg (by omega)) (Ev.now _)
    | succ d ih =>
      intro i hi
      have h := ih (i + 1) (by omega)
      rw [take_snocD L i [] (by omega)] at h
      refine Ev_succ ?_
      simp only [spec_l06Copy.l0]
      refine Ev.congr (fun k => if_pos (by omega)) (Ev.congr (fun k => if_pos (by omega)) ?_)
      rw [wrdRow, ownS_f _ (hL.at i), wS (n := i) (by omega)]
      simp only [Option.bind_some]
      exact Ev.congr (fun k => if_pos (by rw [List.length_take]; omega)) h
  unfold spec_l06Copy.f
  rw [ownS_f l hl]
  exact key L.length 0 (by omega)
theorem cloneWeb_ev (l : List Int) (L : List (List Int)) (hl : l.length ≤ 1048576) (hL : Small L) : Ev (fun k => impl_cloneWeb.f k l L) (l, L) := by
  have hLl := hL.len
  have key : ∀ d i, i + d = L.length → Ev (fun k => impl_cloneWeb.l0 k L (L.length : Int) (i : Int) l (L.take i)) (l, L) := by
    intro d
    induction d with
    | zero =>
      intro i hi
      refine Ev_succ ?_
      simp only [impl_cloneWeb.l0]
      rw [List.take_of_length_le (by omega)]
      exact Ev.congr (fun k => if_neg (by omega)) (Ev.now _)
    | succ d ih =>
      intro i hi
      have h := ih (i + 1) (by omega)
      rw [take_snocD L i [] (by omega)] at h
      refine Ev_succ ?_
      simp only [impl_cloneWeb.l0]
      refine Ev.congr (fun k => if_pos (by omega)) (Ev.congr (fun k => if_pos (by omega)) (Ev.congr (fun k => if_pos (by omega)) ?_))
      rw [wrdRow, clone_f _ (hL.at i), wS (n := i) (by omega)]
      simp only [Option.bind_some]
      exact Ev.congr (fun k => if_pos (by rw [List.length_take]; omega)) h
  unfold impl_cloneWeb.f
  rw [clone_f l hl]
  exact key L.length 0 (by omega)
theorem markW_ev (l : List Int) (L : List (List Int)) (hl : l.length ≤ 1048576) (hL : Small L) : Ev (fun k => laws_markInt64S.f k l 1) (((1 + l.length : Nat) : Int), marks 1 l.length) ∧ Ev (fun k => laws_markInt64SS.f k L ((1 + l.length : Nat) : Int)) (((1 + l.length + total L : Nat) : Int), markSS (1 + l.length) L) ∧ Ev (fun k => laws_heldWeb.f k (marks 1 l.length) (markSS (1 + l.length) L) 1) ((1 + l.length + total L : Nat) : Int) := by
  have hLl := hL.len
  have hr : ∀ r ∈ L, r.length ≤ 1048576 := fun r h => by
    obtain ⟨j, hj, e⟩ := List.mem_iff_getElem.1 h
    have := hL.at j
    rwa [List.getD_eq_getElem?_getD, List.getElem?_eq_getElem hj, Option.getD_some, e] at this
  refine ⟨mark_s_ev 1 (by omega) l (by omega), markSS_l0 L [] (1 + l.length) (by omega) (by simp; omega) hr, ?_⟩
  unfold laws_heldWeb.f
  refine Ev.bind (held_s_ev 1 l.length (by omega)) ?_
  refine Ev.congr (fun k => if_neg (by omega)) (Ev.bind (heldSS_l0 L [] (1 + l.length) (by omega) (by simp; omega) hr) ?_)
  exact Ev.congr (fun k => if_neg (by omega)) (Ev.now _)
end Go.Proofs.Ytnlhhbnoccobmaa.Pure
