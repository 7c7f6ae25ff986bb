/- Plain laws: what IsWithoutCrossings and CrossingDegrees come to on both sides. -/
import Derived.Test.YtfijnlbkflmkbaaFgD
import Derived.Test.YtfijnlbkflmkbaaFx31
import Derived.Test.YtfijnlbkflmkbaaFx33
import Derived.Test.YtfijnlbkflmkbaaFx85
import Derived.Test.YtfijnlbkflmkbaaPureE
namespace Go.Proofs.Ytfijnlbkflmkbaa.Pure
open Go.RowKit Go.Proofs.Ytfijnlbkflmkbaa.F Go.Proofs.YtfijnlbkflmkbaaW.PrintWords Go.Proofs.YtfijnlbkflmkbaaW.PrintLast

set_option linter.unusedSimpArgs false
def rowPlain (w : List Int) (i k d : Nat) : Bool := (List.range' k d).all fun k => !crossB w i k
def plainFrom (w : List Int) (i d : Nat) : Bool := (List.range' i d).all fun i => rowPlain w i 0 (w.length / 2)
theorem rd_rows {w : List Int} {i : Nat} (hi : i < w.length / 2) : rd_L1 (rowsOf w) (i : Int) = rowTo w i (w.length / 2) := by
  unfold rd_L1; rw [Int.toNat_natCast]; exact rowsOf_get hi
theorem rowsOf_len (w : List Int) : (rowsOf w).length = w.length / 2 := rowsTo_len w _
theorem plain_l1 (w : List Int) (hle : w.length ≤ 12) (i : Nat) (hi : i < w.length / 2) (r : Bool) (hr : Ev (fun k => spec_l09Plain.l0 k (rowsOf w) ((i + 1 : Nat) : Int)) r) : ∀ d m, m + d = w.length / 2 → Ev (fun k => spec_l09Plain.l1 k (rowsOf w) (i : Int) (m : Int)) (rowPlain w i m d && r) := by
  have hl := rowsOf_len w
  intro d
  induction d with
  | zero =>
    intro m hm
    refine Ev.step (fun k => ?_) hr
    simp only [spec_l09Plain.l1]
    rw [if_neg (by omega), wS (by omega)]
  | succ d ih =>
    intro m hm
    have hh := ih (m + 1) (by omega)
    unfold rowPlain at hh ⊢
    rw [List.range'_succ, List.all_cons]
    refine Ev.step (f := fun k => if ent w i m = 0 then spec_l09Plain.l1 k (rowsOf w) (i : Int) ((m + 1 : Nat) : Int) else some false) (fun k => ?_) ?_
    · simp only [spec_l09Plain.l1]
      rw [if_pos (by omega), if_pos (by omega), if_pos (by omega), if_pos (by omega), rd_rows hi, if_pos (by rw [rowTo_len]; omega), rdN, rowTo_get (by omega), wS (by omega)]
    by_cases c : crossB w i m = true
    · rw [c]
      exact Ev.congr (fun k => if_neg (by unfold ent; rw [if_pos c]; decide)) (by simpa using Ev.now false)
    · have c' : crossB w i m = false := by simpa using c
      rw [c', Bool.not_false, Bool.true_and]
      exact Ev.congr (fun k => if_pos (by unfold ent; rw [if_neg c])) hh
theorem plain_l0 (w : List Int) (hle : w.length ≤ 12) : ∀ d n, n + d = w.length / 2 → Ev (fun k => spec_l09Plain.l0 k (rowsOf w) (n : Int)) (plainFrom w n d) := by
  have hl := rowsOf_len w
  intro d
  induction d with
  | zero =>
    intro n hn
    refine Ev.step (f := fun _ => some true) (fun k => ?_) (Ev.now _)
    simp only [spec_l09Plain.l0]; rw [if_neg (by omega)]
  | succ d ih =>
    intro n hn
    refine Ev.step (f := fun k => spec_l09Plain.l1 k (rowsOf w) (n : Int) ((0 : Nat) : Int)) (fun k => ?_) ?_
    · simp only [spec_l09Plain.l0]; rw [if_pos (by omega)]; rfl
    · unfold plainFrom
      rw [List.range'_succ, List.all_cons]
      exact plain_l1 w hle n (by omega) _ (ih (n + 1) (by omega)) (w.length / 2) 0 (by omega)
theorem plain_ev (w : List Int) (hw : Word w) : Ev (fun k => spec_l09Plain.f k w) (plainFrom w 0 (w.length / 2)) := by
  unfold spec_l09Plain.f
  exact Ev.bind (srows_ev w hw) (plain_l0 w hw.le _ 0 (by omega))
theorem cross_self (w : List Int) (i : Nat) : crossB w i i = false := by simp [crossB]
theorem cross_symm {w : List Int} (hw : Word w) {i k : Nat} (hi : i < w.length / 2) (hk : k < w.length / 2) : crossB w i k = crossB w k i := by
  by_cases e : i = k
  · rw [e]
  · have hp := places_ne hw e hi hk
    have li := places_lt (hw.count hi)
    have lk := places_lt (hw.count hk)
    unfold crossB
    rw [show (i == k) = false from by simpa using e, show (k == i) = false from by simpa using Ne.symm e]
    by_cases c1 : pA w i < pA w k <;> by_cases c2 : pA w k < pB w i <;> by_cases c3 : pA w i < pB w k <;> by_cases c4 : pB w k < pB w i <;>
      simp only [c1, c2, c3, c4, show (pA w k < pA w i) = ¬ (pA w i < pA w k) from by rw [eq_iff_iff]; omega, show (pB w i < pA w k) = ¬ (pA w k < pB w i) from by rw [eq_iff_iff]; omega, show (pB w k < pA w i) = ¬ (pA w i < pB w k) from by rw [eq_iff_iff]; omega, show (pB w i < pB w k) = ¬ (pB w k < pB w i) from by rw [eq_iff_iff]; omega, decide_true, decide_false, not_true_eq_false, not_false_eq_true, Bool.true_and, Bool.false_and, Bool.and_true, Bool.and_false, bne_self_eq_false, Bool.not_false] <;> first | rfl | decide | (exfalso; omega)
theorem crossRow_zero (w : List Int) (k : Nat) : ∀ i, crossRow w k i = 0 ↔ ∀ j, j < i → crossB w j k = false
  | 0 => ⟨fun _ j hj => absurd hj (by omega), fun _ => rfl⟩
  | i + 1 => by
    have ih := crossRow_zero w k i
    rw [crossRow]
    constructor
    · intro h j hj
      by_cases e : j = i
      · subst e
        cases hc : crossB w j k with
        | false => rfl
        | true => rw [if_pos hc] at h; omega
      · exact ih.1 (by omega) j (by omega)
    · intro h
      rw [if_neg (by rw [h i (by omega)]; simp), ih.2 (fun j hj => h j (by omega))]
theorem crossTo_zero (w : List Int) : ∀ n, crossTo w n = 0 ↔ ∀ k, k < n → ∀ j, j < k → crossB w j k = false
  | 0 => ⟨fun _ k hk => absurd hk (by omega), fun _ => rfl⟩
  | n + 1 => by
    have ih := crossTo_zero w n
    rw [crossTo]
    constructor
    · intro h k hk
      by_cases e : k = n
      · subst e; exact (crossRow_zero w k k).1 (by omega)
      · exact ih.1 (by omega) k (by omega)
    · intro h
      have h1 := ih.2 (fun k hk => h k (by omega))
      have h2 := (crossRow_zero w n n).2 (h n (by omega))
      omega
theorem flat_plain {w : List Int} (hw : Word w) : (crossTo w (w.length / 2) == 0) = plainFrom w 0 (w.length / 2) := by
  rw [Bool.eq_iff_iff, beq_iff_eq, crossTo_zero]
  unfold plainFrom rowPlain
  simp only [List.all_eq_true, List.mem_range'_1, Bool.not_eq_true']
  constructor
  · intro h i hi k hk
    by_cases e : i < k
    · exact h k (by omega) i e
    · by_cases e2 : i = k
      · subst e2; exact cross_self w i
      · rw [cross_symm hw (by omega) (by omega)]; exact h i (by omega) k (by omega)
  · intro h k hk j hj
    exact h j ⟨Nat.zero_le _, by omega⟩ k ⟨Nat.zero_le _, by omega⟩
def flatV (w : List Int) : Bool × Int := if isW w = true then (plainFrom w 0 (w.length / 2), 0) else (false, 1)
theorem specFlat_ev (w : List Int) : Ev (fun k => spec_IsWithoutCrossings.f k w) (flatV w) := by
  unfold spec_IsWithoutCrossings.f flatV
  refine Ev.bind (is_ev w) ?_
  by_cases h : isW w = true
  · rw [if_pos h]
    exact Ev.congr (fun k => if_pos h) (Ev.bind (plain_ev w ((isW_iff w).1 h)) (Ev.now _))
  · rw [if_neg h]
    exact Ev.congr (fun k => if_neg h) (Ev.now _)
theorem flat_f (w : List Int) (h : isW w = true) : impl_flat.f w = some (plainFrom w 0 (w.length / 2)) := by
  unfold impl_flat.f
  rw [if_pos h, flat_plain ((isW_iff w).1 h)]
theorem implFlat_ev (w : List Int) (hwf : ∀ x ∈ w, (Lit.int .i64 x).wf = true) : Ev (fun k => impl_IsWithoutCrossings.f k w) (flatV w) := by
  unfold impl_IsWithoutCrossings.f flatV
  refine Ev.bind (isWord_ev w hwf) ?_
  by_cases h : isW w = true
  · refine Ev.congr (f := fun _ => some (plainFrom w 0 (w.length / 2), 0)) (fun k => ?_) ?_
    · rw [if_pos h, flat_f w h, Option.bind_some]
    · rw [if_pos h]; exact Ev.now _
  · refine Ev.congr (f := fun _ => some (false, 1)) (fun k => if_neg h) ?_
    rw [if_neg h]; exact Ev.now _
end Go.Proofs.Ytfijnlbkflmkbaa.Pure
