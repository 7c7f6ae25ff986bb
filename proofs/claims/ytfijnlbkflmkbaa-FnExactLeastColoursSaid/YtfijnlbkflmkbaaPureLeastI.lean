/- Plain laws: what LeastColours comes to on the program's side: the first number of classes that is there. -/
import Derived.Test.YtfijnlbkflmkbaaFx119
import Derived.Test.YtfijnlbkflmkbaaFx56
import Derived.Test.YtfijnlbkflmkbaaPureLeast
import Derived.Test.YtfijnlbkflmkbaaPureCls
import Derived.Test.YtfijnlbkflmkbaaPureIdxZ
namespace Go.Proofs.Ytfijnlbkflmkbaa.Pure
open Go.RowKit Go.Proofs.Ytfijnlbkflmkbaa.F Go.Proofs.Ytfijnlbkflmkbaa.Mem Go.Proofs.Ytfijnlbkflmkbaa.Chrom Go.Proofs.YtfijnlbkflmkbaaW.PrintWords Go.Proofs.YtfijnlbkflmkbaaW.PrintLast
set_option linter.unusedVariables false
set_option linter.unusedSimpArgs false

theorem cross_symC {w : List Int} (hw : Word w) {i k : Nat} (hi : i < w.length / 2) (hk : k < w.length / 2) : crossB w i k = crossB w k i := by
  by_cases e : i = k
  · rw [e]
  · have hp := places_ne hw e hi hk
    have li := places_lt (hw.count hi)
    have lk := places_lt (hw.count hk)
    unfold crossB
    rw [show (i == k) = false from by simpa using e, show (k == i) = false from by simpa using Ne.symm e]
    by_cases c1 : pA w i < pA w k <;> by_cases c2 : pA w k < pB w i <;> by_cases c3 : pA w i < pB w k <;> by_cases c4 : pB w k < pB w i <;>
      simp only [c1, c2, c3, c4, show (pA w k < pA w i) = ¬ (pA w i < pA w k) from by rw [eq_iff_iff]; omega, show (pB w i < pA w k) = ¬ (pA w k < pB w i) from by rw [eq_iff_iff]; omega, show (pB w k < pA w i) = ¬ (pA w i < pB w k) from by rw [eq_iff_iff]; omega, show (pB w i < pB w k) = ¬ (pB w k < pB w i) from by rw [eq_iff_iff]; omega, decide_true, decide_false, not_true_eq_false, not_false_eq_true, Bool.true_and, Bool.false_and, Bool.and_true, Bool.and_false, bne_self_eq_false, Bool.not_false] <;> first | rfl | decide | (exfalso; omega)
/-- The counts that impl.classes finds are the numbers of divisions. -/
theorem classV_eq (w : List Int) (hw : Word w) : classV w = clsOf (crossB w) (w.length / 2) ∧ Few 117649 (classV w) := by
  have hle := hw.le
  have h := clsP_of (fun i a => crossB w a i) (w.length / 2) (by omega)
  have e := clsOf_congr (X := fun i a => crossB w a i) (Y := crossB w) (w.length / 2) (fun i a hi ha => cross_symC hw ha hi)
  unfold classV
  rw [h.1]
  exact ⟨e, h.2⟩
theorem idxZ_fst (l : List Int) : ∀ d j, j + d = l.length → (∃ i, j ≤ i ∧ i < l.length ∧ 0 < l.getD i 0) → idxZ moreZ (l.drop j) j = ((fst (fun k => decide (0 < l.getD k 0)) d j : Nat) : Int)
  | 0, j, hj, h => by obtain ⟨i, h1, h2, _⟩ := h; omega
  | d + 1, j, hj, h => by
    have hjl : j < l.length := by omega
    rw [List.drop_eq_getElem_cons hjl, idxZ, fst]
    have e : l.getD j 0 = l[j] := by rw [List.getD_eq_getElem?_getD, List.getElem?_eq_getElem hjl]; rfl
    rw [e]
    by_cases c : 0 < l[j]
    · rw [if_pos (show moreZ l[j] = true from decide_eq_true c), if_pos (decide_eq_true c)]
    · rw [if_neg (show ¬ moreZ l[j] = true from by unfold moreZ; simpa using c), if_neg (by simpa using c)]
      refine idxZ_fst l d (j + 1) (by omega) ?_
      obtain ⟨i, h1, h2, h3⟩ := h
      refine ⟨i, ?_, h2, h3⟩
      by_cases g : i = j
      · subst g; rw [e] at h3; exact absurd h3 c
      · omega
theorem fst_ext {f g : Nat → Bool} : ∀ d j, (∀ i, j ≤ i → i < j + d → f i = g i) → fst f d j = fst g d j
  | 0, _, _ => rfl
  | d + 1, j, h => by rw [fst, fst, h j (Nat.le_refl _) (by omega), fst_ext d (j + 1) (fun i h1 h2 => h i (by omega) (by omega))]
theorem fst_le (f : Nat → Bool) : ∀ d j, fst f d j ≤ j + d
  | 0, j => Nat.le_refl _
  | d + 1, j => by
    rw [fst]
    split
    · omega
    · have := fst_le f d (j + 1); omega
theorem fst_succ (f : Nat → Bool) (d j : Nat) : fst f (d + 1) j = if f j = true then j else fst f d (j + 1) := rfl
theorem fst_snoc (f : Nat → Bool) : ∀ d j, f (j + d) = true → fst f (d + 1) j = fst f d j
  | 0, j, h => by
    rw [fst_succ, if_pos (by rw [Nat.add_zero] at h; exact h)]; rfl
  | d + 1, j, h => by
    rw [fst_succ f (d + 1) j, fst_succ f d j]
    by_cases c : f j = true
    · rw [if_pos c, if_pos c]
    · rw [if_neg c, if_neg c]
      exact fst_snoc f d (j + 1) (by rw [← h]; congr 1; omega)
theorem fst_miss (f : Nat → Bool) : ∀ d j, fst f d j = j + d → ∀ i, j ≤ i → i < j + d → f i = false
  | 0, _, _, i, h1, h2 => by omega
  | d + 1, j, h, i, h1, h2 => by
    rw [fst] at h
    by_cases c : f j = true
    · rw [if_pos c] at h; omega
    · rw [if_neg c] at h
      by_cases e : i = j
      · rw [e]; simpa using c
      · exact fst_miss f d (j + 1) (by omega) i (by omega) (by omega)
theorem fst_hit (f : Nat → Bool) : ∀ d j, fst f d j < j + d → f (fst f d j) = true
  | 0, j, h => by rw [fst] at h; omega
  | d + 1, j, h => by
    rw [fst] at h ⊢
    by_cases c : f j = true
    · rw [if_pos c]; exact c
    · rw [if_neg c] at h ⊢; exact fst_hit f d (j + 1) (by omega)
/-- With as many classes as chords there is a division, or with less. -/
theorem least_there (X : Nat → Nat → Bool) (n : Nat) : ∃ i, i < n + 1 ∧ 0 < (clsOf X n).getD i 0 ∧ fst (fun k => ext X k n [] != 0) n 0 = fst (fun k => decide (0 < (clsOf X n).getD k 0)) (n + 1) 0 := by
  have hf := first_class X n n 0 (by omega) (fun i hi => absurd hi (Nat.not_lt_zero _))
  have hb := fst_le (fun k => decide (0 < (clsOf X n).getD k 0)) n 0
  rw [hf]
  by_cases c : fst (fun k => decide (0 < (clsOf X n).getD k 0)) n 0 = 0 + n
  · have hm := fst_miss _ n 0 c
    -- none below n: then n itself
    have hext := fst_miss (fun k => ext X k n [] != 0) n 0 (hf.trans c)
    have hz : ∀ m, m ≤ n → ∀ j, j < m → (clsOf X n).getD j 0 = 0 := by
      intro m
      induction m with
      | zero => intro _ j hj; exact absurd hj (Nat.not_lt_zero _)
      | succ m ih =>
        intro hm2 j hj
        by_cases e : j = m
        · subst e
          have h1 := ext_first X n j (by omega) (ih (by omega))
          have h2 := hext j (Nat.zero_le _) (by omega)
          have h3 : ext X j n [] = 0 := by simpa using h2
          rw [h3] at h1
          have hp := fall_pos j j (Nat.le_refl _)
          rcases Int.mul_eq_zero.1 h1.symm with g | g
          · exact g
          · omega
        · exact ih (by omega) j (by omega)
    have h1 := ext_first X n n (Nat.le_refl _) (hz n (Nat.le_refl _))
    have h2 := ext_pos X n n 0 (by omega)
    rw [show List.range 0 = [] from rfl, h1] at h2
    have hp := fall_pos n n (Nat.le_refl _)
    have hpos : 0 < (clsOf X n).getD n 0 := by
      rcases Int.lt_or_le 0 ((clsOf X n).getD n 0) with g | g
      · exact g
      · have : (clsOf X n).getD n 0 * fall n n ≤ 0 := Int.mul_nonpos_of_nonpos_of_nonneg g (Int.le_of_lt hp)
        omega
    exact ⟨n, by omega, hpos, (fst_snoc _ n 0 (by show decide (0 < (clsOf X n).getD (0 + n) 0) = true; rw [Nat.zero_add]; exact decide_eq_true hpos)).symm⟩
  · have hlt : fst (fun k => decide (0 < (clsOf X n).getD k 0)) n 0 < 0 + n := by omega
    have hh := fst_hit _ n 0 hlt
    refine ⟨_, by omega, of_decide_eq_true hh, ?_⟩
    -- the search stops at the same place
    have key : ∀ d j, fst (fun k => decide (0 < (clsOf X n).getD k 0)) d j < j + d → fst (fun k => decide (0 < (clsOf X n).getD k 0)) (d + 1) j = fst (fun k => decide (0 < (clsOf X n).getD k 0)) d j := by
      intro d
      induction d with
      | zero => intro j h; rw [fst] at h; omega
      | succ d ih =>
        intro j h
        rw [fst_succ _ (d + 1) j, fst_succ _ d j]
        rw [fst_succ _ d j] at h
        by_cases c : decide (0 < (clsOf X n).getD j 0) = true
        · rw [if_pos c, if_pos c]
        · rw [if_neg c, if_neg c]
          rw [if_neg c] at h
          exact ih (j + 1) (by omega)
    exact (key n 0 hlt).symm
theorem implLea_ev (w : List Int) (hwf : ∀ x ∈ w, (Lit.int .i64 x).wf = true) : Ev (fun k => impl_LeastColours.f k w) (leastV w) := by
  unfold impl_LeastColours.f leastV
  refine Ev.bind (isWord_ev w hwf) ?_
  by_cases h : isW w = true
  · rw [if_pos h, if_pos h]
    have hw := (isW_iff w).1 h
    have hle := hw.le
    have hc := (classV_eq w hw).1
    have hlen : (classV w).length = w.length / 2 + 1 := by rw [hc, clsOf_len]
    obtain ⟨i, hi, hp, he⟩ := least_there (crossB w) (w.length / 2)
    refine Ev.congr (fun k => ?_) (Ev.now _)
    unfold impl_LeastColours_1.f impl_classes.f
    rw [if_pos h, Option.bind_some, if_pos (by omega), Option.bind_some]
    have := idxZ_fst (classV w) (w.length / 2 + 1) 0 (by omega) ⟨i, Nat.zero_le _, by omega, by rw [hc]; exact hp⟩
    rw [List.drop_zero] at this
    rw [this, he, hc]
  · rw [if_neg h, if_neg h]
    exact Ev.now _
theorem leastColours_both (w : List Int) (hwf : ∀ x ∈ w, (Lit.int .i64 x).wf = true) : ∃ v, Ev (fun k => spec_LeastColours.f k w) v ∧ Ev (fun k => impl_LeastColours.f k w) v := ⟨leastV w, specLea_ev w, implLea_ev w hwf⟩
end Go.Proofs.Ytfijnlbkflmkbaa.Pure
