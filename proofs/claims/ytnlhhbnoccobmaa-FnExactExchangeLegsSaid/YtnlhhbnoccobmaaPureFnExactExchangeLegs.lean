/- The program's ExchangeLegs returns what the reference's returns: for all arguments. -/
import Derived.Test.YtnlhhbnoccobmaaFx110
import Derived.Test.YtnlhhbnoccobmaaFx111
import Derived.Test.YtnlhhbnoccobmaaFx112
import Derived.Test.YtnlhhbnoccobmaaFx122
import Derived.Test.YtnlhhbnoccobmaaFx123
import Derived.Test.YtnlhhbnoccobmaaFx33
import Derived.Test.YtnlhhbnoccobmaaFx42
import Derived.Test.YtnlhhbnoccobmaaFx43
import Derived.Test.YtnlhhbnoccobmaaFx9
import Derived.Test.YtnlhhbnoccobmaaPureWebBoth
import Derived.Test.YtnlhhbnoccobmaaPureMarkSS
namespace Go.Proofs.Ytnlhhbnoccobmaa.Pure
open Go.RowKit Go.Proofs.Ytnlhhbnoccobmaa.F Go.Proofs.Ytnlhhbnoccobmaa.Web Go.Proofs.Ytnlhhbnoccobmaa.Mem Go.Proofs.YtnlhhbnoccobmaaW.PrintWords Go.Proofs.YtnlhhbnoccobmaaW.PrintLast
set_option linter.unusedVariables false
set_option linter.unusedSimpArgs false

theorem ownS_f (x : List Int) (h : x.length ≤ 1048576) : spec_l01Own.f x = some x := by
  unfold spec_l01Own.f
  simp only [Option.bind_some, List.length_nil, List.nil_append]
  rw [if_pos (by omega)]
theorem clone_f (x : List Int) (h : x.length ≤ 1048576) : slices_Clone_int64_int64.f x = some x := by
  unfold slices_Clone_int64_int64.f; rw [if_pos (by omega)]
theorem copy_ev (l : List Int) (L : List (List Int)) (hl : l.length ≤ 1048576) (hL : Small L) : Ev (fun k => spec_l06Copy.f k l L) (l, L) := by
  have hLl := hL.len
  have key : ∀ d i, i + d = L.length → Ev (fun k => spec_l06Copy.l0 k (i : Int) l L l (L.take i)) (l, L) := by
    intro d
    induction d with
    | zero =>
      intro i hi
      refine Ev_succ ?_
      simp only [spec_l06Copy.l0]
      rw [List.take_of_length_le (by omega)]
      exact Ev.congr (fun k => if_neg (by omega)) (Ev.now _)
    | succ d ih =>
      intro i hi
      have h := ih (i + 1) (by omega)
      rw [take_snocD L i [] (by omega)] at h
      refine Ev_succ ?_
      simp only [spec_l06Copy.l0]
      refine Ev.congr (fun k => if_pos (by omega)) (Ev.congr (fun k => if_pos (by omega)) ?_)
      rw [wrdRow, ownS_f _ (hL.at i), wS (n := i) (by omega)]
      simp only [Option.bind_some]
      exact Ev.congr (fun k => if_pos (by rw [List.length_take]; omega)) h
  unfold spec_l06Copy.f
  rw [ownS_f l hl]
  exact key L.length 0 (by omega)
theorem cloneWeb_ev (l : List Int) (L : List (List Int)) (hl : l.length ≤ 1048576) (hL : Small L) : Ev (fun k => impl_cloneWeb.f k l L) (l, L) := by
  have hLl := hL.len
  have key : ∀ d i, i + d = L.length → Ev (fun k => impl_cloneWeb.l0 k L (L.length : Int) (i : Int) l (L.take i)) (l, L) := by
    intro d
    induction d with
    | zero =>
      intro i hi
      refine Ev_succ ?_
      simp only [impl_cloneWeb.l0]
      rw [List.take_of_length_le (by omega)]
      exact Ev.congr (fun k => if_neg (by omega)) (Ev.now _)
    | succ d ih =>
      intro i hi
      have h := ih (i + 1) (by omega)
      rw [take_snocD L i [] (by omega)] at h
      refine Ev_succ ?_
      simp only [impl_cloneWeb.l0]
      refine Ev.congr (fun k => if_pos (by omega)) (Ev.congr (fun k => if_pos (by omega)) (Ev.congr (fun k => if_pos (by omega)) ?_))
      rw [wrdRow, clone_f _ (hL.at i), wS (n := i) (by omega)]
      simp only [Option.bind_some]
      exact Ev.congr (fun k => if_pos (by rw [List.length_take]; omega)) h
  unfold impl_cloneWeb.f
  rw [clone_f l hl]
  exact key L.length 0 (by omega)
def legsV (l : List Int) (L : List (List Int)) (a : Int) : Int := if isWebC l L = true then (if decide (0 ≤ a ∧ a ≤ wrap64 ((l.length : Int) - 2)) = true then 0 else 2) else 1
theorem specLegs_ev (l : List Int) (L : List (List Int)) (a : Int) (hl : l.length ≤ 1048576) (hL : Small L) : Ev (fun k => spec_l06Code.f k l L a) (legsV l L a) := by
  unfold spec_l06Code.f legsV
  refine Ev.bind (specIs_C hl hL) ?_
  by_cases h : isWebC l L = true
  · simp only [if_pos h, spec_in_f, Option.bind_some]
    by_cases g : decide (0 ≤ a ∧ a ≤ wrap64 ((l.length : Int) - 2)) = true
    · simp only [if_pos g]; exact Ev.now _
    · simp only [if_neg g]; exact Ev.now _
  · simp only [if_neg h]; exact Ev.now _
theorem implLegs_f (l : List Int) (L : List (List Int)) (a : Int) (hl : l.length ≤ 17592186044416) (hL : L.length ≤ 17592186044416) (hw : wfW l L = true) : impl_legsFault.f l L a = some (legsV l L a) := by
  have e : impl_IsWeb.f l L = some (isWebC l L) := by unfold impl_IsWeb.f; rw [if_pos ⟨hl, hL, hw⟩]
  unfold impl_legsFault.f legsV
  rw [e]
  simp only [Option.bind_some]
  by_cases h : isWebC l L = true
  · rw [if_pos h, if_pos h, in_f]
    simp only [Option.bind_some]
    by_cases g : decide (0 ≤ a ∧ a ≤ wrap64 ((l.length : Int) - 2)) = true
    · rw [if_pos g, if_pos g]
    · rw [if_neg g, if_neg g]
  · rw [if_neg h, if_neg h]
def exV (l : List Int) (L : List (List Int)) (a : Int) : List Int × List (List Int) × Int := if legsV l L a = 0 then (swapAt l a.toNat, L, 0) else ([], [], legsV l L a)
theorem legs_zero {l : List Int} {L : List (List Int)} {a : Int} (h : legsV l L a = 0) : isWebC l L = true ∧ 0 ≤ a ∧ a + 1 < (l.length : Int) ∧ l.length ≤ 8 := by
  unfold legsV at h
  by_cases g : isWebC l L = true
  · rw [if_pos g] at h
    have h8 := (web_of g).1
    by_cases q : decide (0 ≤ a ∧ a ≤ wrap64 ((l.length : Int) - 2)) = true
    · have := of_decide_eq_true q
      rw [show wrap64 ((l.length : Int) - 2) = (l.length : Int) - 2 from by unfold wrap64; omega] at this
      exact ⟨g, this.1, by omega, by omega⟩
    · rw [if_neg q] at h; exact absurd h (by decide)
  · rw [if_neg g] at h; exact absurd h (by decide)
theorem specEx_ev (l : List Int) (L : List (List Int)) (a : Int) (hl : l.length ≤ 1048576) (hL : Small L) : Ev (fun k => spec_ExchangeLegs.f k l L a) (exV l L a) := by
  unfold spec_ExchangeLegs.f exV
  refine Ev.bind (specLegs_ev l L a hl hL) ?_
  by_cases h : legsV l L a = 0
  · rw [if_pos h]
    obtain ⟨_, h0, h1, h8⟩ := legs_zero h
    obtain ⟨i, rfl⟩ : ∃ i : Nat, a = (i : Int) := ⟨a.toNat, by omega⟩
    refine Ev.congr (fun k => if_pos h) (Ev.bind (copy_ev l L hl hL) ?_)
    dsimp only
    rw [wS (n := i) (by omega)]
    refine Ev.congr (fun k => if_pos (by omega)) (Ev.congr (fun k => if_pos (by omega)) (Ev.congr (fun k => if_pos (by omega)) (Ev.congr (fun k => if_pos (by omega)) ?_)))
    rw [rdN, rdN, Int.toNat_natCast, Int.toNat_natCast]
    exact Ev.now _
  · rw [if_neg h]
    exact Ev.congr (fun k => if_neg h) (Ev.now _)
theorem implEx_ev (l : List Int) (L : List (List Int)) (a : Int) (hl : l.length ≤ 1048576) (hL : Small L) (hw : wfW l L = true) : Ev (fun k => impl_ExchangeLegs.f k l L a) (exV l L a) := by
  have := hL.len
  unfold impl_ExchangeLegs.f exV
  rw [implLegs_f l L a (by omega) (by omega) hw]
  simp only [Option.bind_some]
  by_cases h : legsV l L a = 0
  · rw [if_pos h]
    obtain ⟨_, h0, h1, h8⟩ := legs_zero h
    refine Ev.congr (fun k => if_pos h) (Ev.bind (cloneWeb_ev l L hl hL) ?_)
    exact Ev.congr (fun k => if_pos ⟨h0, h1, by omega⟩) (Ev.now _)
  · rw [if_neg h]
    exact Ev.congr (fun k => if_neg h) (Ev.now _)
theorem exV_small (l : List Int) (L : List (List Int)) (a : Int) (hl : l.length ≤ 1048576) (hL : Small L) : (exV l L a).1.length ≤ 1048576 ∧ Small (exV l L a).2.1 := by
  unfold exV
  by_cases h : legsV l L a = 0
  · rw [if_pos h]; exact ⟨by unfold swapAt; simpa using hl, hL⟩
  · rw [if_neg h]; exact ⟨by simp, ⟨by simp, by simp⟩⟩
theorem markW_ev (l : List Int) (L : List (List Int)) (hl : l.length ≤ 1048576) (hL : Small L) : Ev (fun k => laws_markInt64S.f k l 1) (((1 + l.length : Nat) : Int), marks 1 l.length) ∧ Ev (fun k => laws_markInt64SS.f k L ((1 + l.length : Nat) : Int)) (((1 + l.length + total L : Nat) : Int), markSS (1 + l.length) L) ∧ Ev (fun k => laws_heldWeb.f k (marks 1 l.length) (markSS (1 + l.length) L) 1) ((1 + l.length + total L : Nat) : Int) := by
  have hLl := hL.len
  have hr : ∀ r ∈ L, r.length ≤ 1048576 := fun r h => by
    obtain ⟨j, hj, e⟩ := List.mem_iff_getElem.1 h
    have := hL.at j
    rwa [List.getD_eq_getElem?_getD, List.getElem?_eq_getElem hj, Option.getD_some, e] at this
  refine ⟨mark_s_ev 1 (by omega) l (by omega), markSS_l0 L [] (1 + l.length) (by omega) (by simp; omega) hr, ?_⟩
  unfold laws_heldWeb.f
  refine Ev.bind (held_s_ev 1 l.length (by omega)) ?_
  refine Ev.congr (fun k => if_neg (by omega)) (Ev.bind (heldSS_l0 L [] (1 + l.length) (by omega) (by simp; omega) hr) ?_)
  exact Ev.congr (fun k => if_neg (by omega)) (Ev.now _)
theorem FnExactExchangeLegs (l : List Int) (L : List (List Int)) (m0 : l.length ≤ maxLen) (m1 : L.length ≤ maxLen) (w0 : ∀ x ∈ l, (Lit.int .i64 x).wf = true) (w1 : ∀ m ∈ L, m.length ≤ maxLen ∧ ∀ x ∈ m, (Lit.int .i64 x).wf = true) (a : Int) (wa : (Lit.int .i64 a).wf = true) : laws_FnExactExchangeLegs.Good l L a ∧ true = true := by
  refine ⟨?_, rfl⟩
  obtain ⟨t, ht, hq⟩ := szWeb_ev l L m0 m1 (fun m hm => (w1 m hm).1)
  obtain ⟨k0, e0⟩ := Ev.rounds ht
  by_cases g : t < 0
  · exact .inl ⟨k0, t, e0, g⟩
  · obtain ⟨hl, hL⟩ := hq (by omega)
    have hLl := hL.len
    obtain ⟨k1, e1⟩ := Ev.rounds (toWeb_ev hl hL)
    obtain ⟨k2, e2⟩ := Ev.rounds (specEx_ev l L a hl hL)
    obtain ⟨k3, e3⟩ := Ev.rounds (implEx_ev l L a hl hL (wf_inc w0 (fun m hm => (w1 m hm).2)))
    obtain ⟨h1, h2⟩ := exV_small l L a hl hL
    have h2l := h2.len
    obtain ⟨k4, e4⟩ := Ev.rounds (eqWeb_ev (m := (exV l L a).1) (M := (exV l L a).2.1) h1 h2)
    obtain ⟨k5, e5⟩ := Ev.rounds (eqWeb_ev (m := l) (M := L) hl hL)
    obtain ⟨p6, p7, _⟩ := markW_ev l L hl hL
    obtain ⟨p8, p9, pa⟩ := markW_ev (exV l L a).1 (exV l L a).2.1 h1 h2
    obtain ⟨k6, e6⟩ := Ev.rounds p6
    obtain ⟨k7, e7⟩ := Ev.rounds p7
    obtain ⟨k8, e8⟩ := Ev.rounds p8
    obtain ⟨k9, e9⟩ := Ev.rounds p9
    obtain ⟨ka, ea⟩ := Ev.rounds pa
    exact .inr ⟨k0, k1, k2, k3, k4, k5, k6, k7, k8, k9, ka, t, (exV l L a).2.2, (exV l L a).1, (exV l L a).2.1, _, _, _, _, _, _, _, _, e0, by omega, e1, e2, e3, e4.trans (by simp), e5.trans (by simp), e6, e7, by omega, e8, e9, by omega, ea, by omega, by omega⟩
end Go.Proofs.Ytnlhhbnoccobmaa.Pure
