/- Plain laws: pairs of words with one curve are counted alike on both sides, and the count does not hang on the words' order. -/
import Derived.Test.YtfijnlbkflmkbaaFx40
import Derived.Test.YtfijnlbkflmkbaaFx41
import Derived.Test.YtfijnlbkflmkbaaPureCurves
import Derived.Test.YtfijnlbkflmkbaaPureD
namespace Go.Proofs.Ytfijnlbkflmkbaa.Pure
open Go.RowKit Go.Proofs.Ytfijnlbkflmkbaa.F Go.Proofs.YtfijnlbkflmkbaaW.PrintWords Go.Proofs.YtfijnlbkflmkbaaW.PrintLast
set_option linter.unusedVariables false
set_option linter.unusedSimpArgs false

theorem Ev_det {α : Type} {g : Nat → Option α} {r q : α} (h : Ev g r) (k : Ev g q) : r = q := by
  obtain ⟨a, ha⟩ := h
  obtain ⟨b, hb⟩ := k
  have h1 := ha (a + b) (by omega)
  have h2 := hb (a + b) (by omega)
  rw [h1] at h2
  exact Option.some.inj h2
open Classical in
/-- The number of curves of two words. -/
noncomputable def cvOf (a b : List Int) : Int := if h : ∃ r, Ev (fun k => spec_l09Curves.f k a b) r then h.choose else 0
theorem cv_spec {a b : List Int} (ha : Word a) (hb : Word b) (hl : a.length = b.length) : Ev (fun k => spec_l09Curves.f k a b) (cvOf a b) ∧ Ev (fun k => impl_curves.f k a b) (cvOf a b) := by
  obtain ⟨r, h1, h2⟩ := curves_ev a b ha hb hl
  have hx : ∃ r, Ev (fun k => spec_l09Curves.f k a b) r := ⟨r, h1⟩
  have e : cvOf a b = r := by unfold cvOf; rw [dif_pos hx]; exact Ev_det hx.choose_spec h1
  rw [e]; exact ⟨h1, h2⟩
/-- How many of a list make one curve with a word; how many pairs of two lists do. -/
noncomputable def rowC (a : List Int) (M : List (List Int)) : Nat := M.countP fun b => decide (cvOf a b = 1)
noncomputable def totC : List (List Int) → List (List Int) → Nat
  | [], _ => 0
  | a :: L, M => rowC a M + totC L M
theorem rowC_perm {a : List Int} {M M' : List (List Int)} (h : M.Perm M') : rowC a M = rowC a M' := h.countP_eq _
theorem totC_permR {M M' : List (List Int)} (h : M.Perm M') : ∀ L, totC L M = totC L M'
  | [] => rfl
  | a :: L => by rw [totC, totC, rowC_perm h, totC_permR h L]
theorem totC_permL {L L' : List (List Int)} (h : L.Perm L') (M : List (List Int)) : totC L M = totC L' M := by
  induction h with
  | nil => rfl
  | cons a _ ih => rw [totC, totC, ih]
  | swap a b l => rw [totC, totC, totC, totC]; omega
  | trans _ _ h1 h2 => exact h1.trans h2
theorem totC_perm {L M : List (List Int)} (h : L.Perm M) : totC L L = totC M M := (totC_permL h L).trans (totC_permR h M)
theorem rowC_le (a : List Int) (M : List (List Int)) : rowC a M ≤ M.length := List.countP_le_length
theorem rowC_take (a : List Int) (M : List (List Int)) (j : Nat) (hj : j < M.length) : rowC a (M.take (j + 1)) = rowC a (M.take j) + if cvOf a (M.getD j []) = 1 then 1 else 0 := by
  unfold rowC
  rw [List.take_succ_eq_append_getElem hj, List.countP_append, List.getD_eq_getElem?_getD, List.getElem?_eq_getElem hj]
  simp [List.countP_cons]
theorem totC_take (L M : List (List Int)) (j : Nat) (hj : j < L.length) : totC (L.take (j + 1)) M = totC (L.take j) M + rowC (L.getD j []) M := by
  have app : ∀ (A B : List (List Int)), totC (A ++ B) M = totC A M + totC B M := by
    intro A B
    induction A with
    | nil => simp [totC]
    | cons a A ih => rw [List.cons_append, totC, totC, ih]; omega
  rw [List.take_succ_eq_append_getElem hj, app, List.getD_eq_getElem?_getD, List.getElem?_eq_getElem hj]
  simp [totC]
theorem totC_le (M : List (List Int)) : ∀ L : List (List Int), totC L M ≤ L.length * M.length
  | [] => by simp [totC]
  | a :: L => by
    have h1 := rowC_le a M
    have h2 := totC_le M L
    rw [totC, List.length_cons, Nat.succ_mul]; omega
theorem rdL1 (L : List (List Int)) (i : Nat) : rd_L1 L (i : Int) = L.getD i [] := by unfold rd_L1; rw [Int.toNat_natCast]
theorem getD_in {L : List (List Int)} {i : Nat} (h : i < L.length) : L.getD i [] ∈ L := by rw [List.getD_eq_getElem?_getD, List.getElem?_eq_getElem h]; exact List.getElem_mem _
theorem impl_cnt (L : List (List Int)) (m : Nat) (hL : ∀ a ∈ L, Word a ∧ a.length = m) (hl : L.length ≤ 1000000) : Ev (fun k => impl_CountMeanders.l0 k L 0 L (L.length : Int) 0) (((totC L L : Nat) : Int), (0 : Int)) := by
  have hmul : L.length * L.length ≤ 1000000 * 1000000 := Nat.mul_le_mul hl hl
  have key : ∀ d i, i + d = L.length → Ev (fun k => impl_CountMeanders.l0 k L ((totC (L.take i) L : Nat) : Int) L (L.length : Int) (i : Int)) (((totC L L : Nat) : Int), (0 : Int)) := by
    intro d
    induction d with
    | zero =>
      intro i hi
      refine Ev_succ ?_
      simp only [impl_CountMeanders.l0]
      rw [List.take_of_length_le (by omega)]
      exact Ev.congr (fun k => if_neg (by omega)) (Ev.now _)
    | succ d ih =>
      intro i hi
      have hil : i < L.length := by omega
      have hh := ih (i + 1) (by omega)
      rw [totC_take L L i hil] at hh
      refine Ev_succ ?_
      simp only [impl_CountMeanders.l0]
      refine Ev.congr (fun k => if_pos (by omega)) (Ev.congr (fun k => if_pos (by omega)) (Ev.congr (fun k => if_pos (by omega)) ?_))
      rw [rdL1]
      have ha := hL _ (getD_in hil)
      have inner : ∀ e j, j + e = L.length → Ev (fun k => impl_CountMeanders.l1 k L ((totC (L.take i) L + rowC (L.getD i []) (L.take j) : Nat) : Int) (L.getD i []) L (L.length : Int) (i : Int) L (L.length : Int) (j : Int)) (((totC L L : Nat) : Int), (0 : Int)) := by
        intro e
        induction e with
        | zero =>
          intro j hj
          refine Ev_succ ?_
          simp only [impl_CountMeanders.l1]
          rw [show L.take j = L from List.take_of_length_le (by omega), wS (n := i) (by omega)]
          exact Ev.congr (fun k => if_neg (by omega)) hh
        | succ e ihe =>
          intro j hj
          have hjl : j < L.length := by omega
          have hb := hL _ (getD_in hjl)
          have hg := ihe (j + 1) (by omega)
          rw [rowC_take _ _ j hjl] at hg
          have hbd : totC (L.take i) L + rowC (L.getD i []) (L.take j) ≤ 2000000000000 := by
            have h1 := totC_le L (L.take i)
            have h2 := rowC_le (L.getD i []) (L.take j)
            have h3 : (L.take i).length * L.length ≤ L.length * L.length := Nat.mul_le_mul_right _ (by rw [List.length_take]; omega)
            rw [List.length_take] at h2
            omega
          refine Ev_succ ?_
          simp only [impl_CountMeanders.l1]
          refine Ev.congr (fun k => if_pos (by omega)) (Ev.congr (fun k => if_pos (by omega)) (Ev.congr (fun k => if_pos (by omega)) ?_))
          rw [rdL1]
          refine Ev.bind (cv_spec ha.1 hb.1 (by omega)).2 ?_
          rw [wS (n := j) (by omega)]
          by_cases c : cvOf (L.getD i []) (L.getD j []) = 1
          · rw [if_pos c, ← Nat.add_assoc] at hg
            rw [wS (by omega)]
            exact Ev.congr (fun k => if_pos c) hg
          · rw [if_neg c, Nat.add_zero] at hg
            exact Ev.congr (fun k => if_neg c) hg
      have h0 := inner L.length 0 (by omega)
      rw [List.take_zero, show rowC (L.getD i []) [] = 0 from rfl, Nat.add_zero] at h0
      exact h0
  have := key L.length 0 (by omega)
  rw [List.take_zero, show totC [] L = 0 from rfl] at this
  exact this
theorem spec_cnt (L : List (List Int)) (m : Nat) (hL : ∀ a ∈ L, Word a ∧ a.length = m) (hl : L.length ≤ 1000000) : Ev (fun k => spec_CountMeanders.l1 k L 0 0) (((totC L L : Nat) : Int), (0 : Int)) := by
  have hmul : L.length * L.length ≤ 1000000 * 1000000 := Nat.mul_le_mul hl hl
  have key : ∀ d i, i + d = L.length → Ev (fun k => spec_CountMeanders.l1 k L ((totC (L.take i) L : Nat) : Int) (i : Int)) (((totC L L : Nat) : Int), (0 : Int)) := by
    intro d
    induction d with
    | zero =>
      intro i hi
      refine Ev_succ ?_
      simp only [spec_CountMeanders.l1]
      rw [List.take_of_length_le (by omega)]
      exact Ev.congr (fun k => if_neg (by omega)) (Ev.now _)
    | succ d ih =>
      intro i hi
      have hil : i < L.length := by omega
      have hh := ih (i + 1) (by omega)
      rw [totC_take L L i hil] at hh
      have ha := hL _ (getD_in hil)
      refine Ev_succ ?_
      simp only [spec_CountMeanders.l1]
      refine Ev.congr (fun k => if_pos (by omega)) ?_
      have inner : ∀ e j, j + e = L.length → Ev (fun k => spec_CountMeanders.l2 k L ((totC (L.take i) L + rowC (L.getD i []) (L.take j) : Nat) : Int) (i : Int) (j : Int)) (((totC L L : Nat) : Int), (0 : Int)) := by
        intro e
        induction e with
        | zero =>
          intro j hj
          refine Ev_succ ?_
          simp only [spec_CountMeanders.l2]
          rw [show L.take j = L from List.take_of_length_le (by omega), wS (n := i) (by omega)]
          exact Ev.congr (fun k => if_neg (by omega)) hh
        | succ e ihe =>
          intro j hj
          have hjl : j < L.length := by omega
          have hb := hL _ (getD_in hjl)
          have hg := ihe (j + 1) (by omega)
          rw [rowC_take _ _ j hjl] at hg
          have hbd : totC (L.take i) L + rowC (L.getD i []) (L.take j) ≤ 2000000000000 := by
            have h1 := totC_le L (L.take i)
            have h2 := rowC_le (L.getD i []) (L.take j)
            have h3 : (L.take i).length * L.length ≤ L.length * L.length := Nat.mul_le_mul_right _ (by rw [List.length_take]; omega)
            rw [List.length_take] at h2
            omega
          refine Ev_succ ?_
          simp only [spec_CountMeanders.l2]
          refine Ev.congr (fun k => if_pos (by omega)) (Ev.congr (fun k => if_pos (by omega)) (Ev.congr (fun k => if_pos (by omega)) (Ev.congr (fun k => if_pos (by omega)) ?_)))
          rw [rdL1, rdL1]
          refine Ev.bind (cv_spec ha.1 hb.1 (by omega)).1 ?_
          rw [wS (n := j) (by omega)]
          by_cases c : cvOf (L.getD i []) (L.getD j []) = 1
          · rw [if_pos c, ← Nat.add_assoc] at hg
            rw [wS (by omega)]
            exact Ev.congr (fun k => if_pos c) hg
          · rw [if_neg c, Nat.add_zero] at hg
            exact Ev.congr (fun k => if_neg c) hg
      have h0 := inner L.length 0 (by omega)
      rw [List.take_zero, show rowC (L.getD i []) [] = 0 from rfl, Nat.add_zero] at h0
      exact h0
  have := key L.length 0 (by omega)
  rw [List.take_zero, show totC [] L = 0 from rfl] at this
  exact this
end Go.Proofs.Ytfijnlbkflmkbaa.Pure
