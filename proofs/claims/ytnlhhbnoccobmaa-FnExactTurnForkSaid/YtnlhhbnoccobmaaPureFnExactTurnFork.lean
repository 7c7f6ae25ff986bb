/- The program's TurnFork returns what the reference's returns: for all arguments. -/
import Derived.Test.YtnlhhbnoccobmaaFx30
import Derived.Test.YtnlhhbnoccobmaaFx31
import Derived.Test.YtnlhhbnoccobmaaFx6
import Derived.Test.YtnlhhbnoccobmaaPureWebCopy
namespace Go.Proofs.Ytnlhhbnoccobmaa.Pure
open Go.RowKit Go.Proofs.Ytnlhhbnoccobmaa.F Go.Proofs.Ytnlhhbnoccobmaa.Web Go.Proofs.Ytnlhhbnoccobmaa.Mem Go.Proofs.YtnlhhbnoccobmaaW.PrintWords Go.Proofs.YtnlhhbnoccobmaaW.PrintLast
set_option linter.unusedVariables false
set_option linter.unusedSimpArgs false

def turnV (l : List Int) (L : List (List Int)) (a : Int) : List Int × List (List Int) × Int := if isWebC l L = true then (if decide (0 ≤ a ∧ a ≤ wrap64 ((L.length : Int) - 1)) = true then (l, L.set a.toNat (turnRow (L.getD a.toNat [])), 0) else ([], [], 2)) else ([], [], 1)
theorem turn_in {l : List Int} {L : List (List Int)} {a : Int} (g : isWebC l L = true) (q : decide (0 ≤ a ∧ a ≤ wrap64 ((L.length : Int) - 1)) = true) : 0 ≤ a ∧ a < (L.length : Int) ∧ (L.getD a.toNat []).length = 3 := by
  have h8 := (web_of g).1
  have h3 := (web_of g).2.1
  have q := of_decide_eq_true q
  rw [show wrap64 ((L.length : Int) - 1) = (L.length : Int) - 1 from by unfold wrap64; omega] at q
  refine ⟨q.1, by omega, ?_⟩
  have hj : a.toNat < L.length := by omega
  rw [List.getD_eq_getElem?_getD, List.getElem?_eq_getElem hj, Option.getD_some]
  exact h3 _ (List.getElem_mem hj)
theorem specTurn_ev (l : List Int) (L : List (List Int)) (a : Int) (hl : l.length ≤ 1048576) (hL : Small L) : Ev (fun k => spec_TurnFork.f k l L a) (turnV l L a) := by
  unfold spec_TurnFork.f turnV
  refine Ev.bind (specIs_C hl hL) ?_
  by_cases h : isWebC l L = true
  · simp only [if_pos h, spec_in_f, Option.bind_some]
    by_cases g : decide (0 ≤ a ∧ a ≤ wrap64 ((L.length : Int) - 1)) = true
    · simp only [if_pos g]
      refine Ev.bind (copy_ev l L hl hL) ?_
      exact Ev.congr (fun k => if_pos (turn_in h g)) (Ev.now _)
    · simp only [if_neg g]; exact Ev.now _
  · simp only [if_neg h]; exact Ev.now _
theorem implTurn_ev (l : List Int) (L : List (List Int)) (a : Int) (hl : l.length ≤ 1048576) (hL : Small L) (hw : wfW l L = true) : Ev (fun k => impl_TurnFork.f k l L a) (turnV l L a) := by
  have := hL.len
  have e : impl_IsWeb.f l L = some (isWebC l L) := by unfold impl_IsWeb.f; rw [if_pos ⟨by omega, by omega, hw⟩]
  unfold impl_TurnFork.f turnV
  rw [e]
  simp only [Option.bind_some]
  by_cases h : isWebC l L = true
  · simp only [if_pos h, in_f, Option.bind_some]
    by_cases g : decide (0 ≤ a ∧ a ≤ wrap64 ((L.length : Int) - 1)) = true
    · simp only [if_pos g]
      refine Ev.bind (cloneWeb_ev l L hl hL) ?_
      exact Ev.congr (fun k => if_pos (turn_in h g)) (Ev.now _)
    · simp only [if_neg g]; exact Ev.now _
  · simp only [if_neg h]; exact Ev.now _
theorem turnRow_len (f : List Int) : (turnRow f).length = f.length := by unfold turnRow; simp
theorem Small.set {L : List (List Int)} (h : Small L) (i : Nat) {r : List Int} (hr : r.length ≤ 1048576) : Small (L.set i r) := by
  refine ⟨by rw [List.length_set]; exact h.len, fun l hl => ?_⟩
  rcases List.mem_or_eq_of_mem_set hl with q | rfl
  · exact h.row l q
  · exact hr
theorem turnV_small (l : List Int) (L : List (List Int)) (a : Int) (hl : l.length ≤ 1048576) (hL : Small L) : (turnV l L a).1.length ≤ 1048576 ∧ Small (turnV l L a).2.1 := by
  unfold turnV
  by_cases h : isWebC l L = true
  · rw [if_pos h]
    by_cases g : decide (0 ≤ a ∧ a ≤ wrap64 ((L.length : Int) - 1)) = true
    · rw [if_pos g]; exact ⟨hl, hL.set _ (by rw [turnRow_len]; exact hL.at _)⟩
    · rw [if_neg g]; exact ⟨by simp, ⟨by simp, by simp⟩⟩
  · rw [if_neg h]; exact ⟨by simp, ⟨by simp, by simp⟩⟩
theorem FnExactTurnFork (l : List Int) (L : List (List Int)) (m0 : l.length ≤ maxLen) (m1 : L.length ≤ maxLen) (w0 : ∀ x ∈ l, (Lit.int .i64 x).wf = true) (w1 : ∀ m ∈ L, m.length ≤ maxLen ∧ ∀ x ∈ m, (Lit.int .i64 x).wf = true) (a : Int) (wa : (Lit.int .i64 a).wf = true) : laws_FnExactTurnFork.Good l L a ∧ true = true := by
  refine ⟨?_, rfl⟩
  obtain ⟨t, ht, hq⟩ := szWeb_ev l L m0 m1 (fun m hm => (w1 m hm).1)
  obtain ⟨k0, e0⟩ := Ev.rounds ht
  by_cases g : t < 0
  · exact .inl ⟨k0, t, e0, g⟩
  · obtain ⟨hl, hL⟩ := hq (by omega)
    have hLl := hL.len
    obtain ⟨k1, e1⟩ := Ev.rounds (toWeb_ev hl hL)
    obtain ⟨k2, e2⟩ := Ev.rounds (specTurn_ev l L a hl hL)
    obtain ⟨k3, e3⟩ := Ev.rounds (implTurn_ev l L a hl hL (wf_inc w0 (fun m hm => (w1 m hm).2)))
    obtain ⟨h1, h2⟩ := turnV_small l L a hl hL
    have h2l := h2.len
    obtain ⟨k4, e4⟩ := Ev.rounds (eqWeb_ev (m := (turnV l L a).1) (M := (turnV l L a).2.1) h1 h2)
    obtain ⟨k5, e5⟩ := Ev.rounds (eqWeb_ev (m := l) (M := L) hl hL)
    obtain ⟨p6, p7, _⟩ := markW_ev l L hl hL
    obtain ⟨p8, p9, pa⟩ := markW_ev (turnV l L a).1 (turnV l L a).2.1 h1 h2
    obtain ⟨k6, e6⟩ := Ev.rounds p6
    obtain ⟨k7, e7⟩ := Ev.rounds p7
    obtain ⟨k8, e8⟩ := Ev.rounds p8
    obtain ⟨k9, e9⟩ := Ev.rounds p9
    obtain ⟨ka, ea⟩ := Ev.rounds pa
    exact .inr ⟨k0, k1, k2, k3, k4, k5, k6, k7, k8, k9, ka, t, (turnV l L a).2.2, (turnV l L a).1, (turnV l L a).2.1, _, _, _, _, _, _, _, _, e0, by omega, e1, e2, e3, e4.trans (by simp), e5.trans (by simp), e6, e7, by omega, e8, e9, by omega, ea, by omega, by omega⟩
end Go.Proofs.Ytnlhhbnoccobmaa.Pure
