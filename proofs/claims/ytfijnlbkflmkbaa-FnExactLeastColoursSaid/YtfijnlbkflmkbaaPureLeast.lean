/- Plain laws: what LeastColours comes to on the reference's side, and that it is the first number of classes that is there. -/
import Derived.Test.YtfijnlbkflmkbaaFx55
import Derived.Test.YtfijnlbkflmkbaaPureColour
namespace Go.Proofs.Ytfijnlbkflmkbaa.Pure
open Go.RowKit Go.Proofs.Ytfijnlbkflmkbaa.F Go.Proofs.Ytfijnlbkflmkbaa.Mem Go.Proofs.Ytfijnlbkflmkbaa.Chrom Go.Proofs.YtfijnlbkflmkbaaW.PrintWords Go.Proofs.YtfijnlbkflmkbaaW.PrintLast
set_option linter.unusedVariables false
set_option linter.unusedSimpArgs false

theorem sumR_pos (f : Nat → Int) (a : Nat) : ∀ n, a < n → (∀ x, x < n → 0 ≤ f x) → 0 < f a → 0 < sumR f n
  | 0, h, _, _ => absurd h (by omega)
  | n + 1, h, h0, hp => by
    have hs : ∀ m, m ≤ n + 1 → 0 ≤ sumR f m := by
      intro m
      induction m with
      | zero => intro _; exact Int.le_refl _
      | succ m ih =>
        intro hm
        have := ih (by omega)
        have := h0 m (by omega)
        rw [sumR]; omega
    rw [sumR]
    by_cases e : a = n
    · have := hs n (by omega)
      rw [← e] at this ⊢; omega
    · have := sumR_pos f a n (by omega) (fun x hx => h0 x (by omega)) hp
      have := h0 n (by omega)
      omega
theorem at_range {m v : Nat} (h : v < m) : at_ (List.range m) v = v := by
  unfold at_; rw [List.getD_eq_getElem?_getD, List.getElem?_range h]; rfl
/-- With as many colours as chords there is a colouring. -/
theorem ext_pos (X : Nat → Nat → Bool) (K : Nat) : ∀ d m, m + d ≤ K → 0 < ext X K d (List.range m)
  | 0, m, _ => by rw [ext]; decide
  | d + 1, m, h => by
    rw [ext]
    refine sumR_pos _ m K (by omega) (fun x _ => ?_) ?_
    · show 0 ≤ (if okc X (List.range m) x = true then ext X K d (List.range m ++ [x]) else 0)
      have := ext_bound X K d (List.range m ++ [x])
      split <;> omega
    · show 0 < (if okc X (List.range m) m = true then ext X K d (List.range m ++ [m]) else 0)
      rw [if_pos (okc_iff.2 fun v hv _ => by rw [List.length_range] at hv; rw [at_range hv]; omega), ← List.range_succ]
      exact ext_pos X K d (m + 1) (by omega)
/-- The first number from j on (d of them) at which f holds; behind them the next one. -/
def fst (f : Nat → Bool) : Nat → Nat → Nat
  | 0, j => j
  | d + 1, j => if f j = true then j else fst f d (j + 1)
def leastV (w : List Int) : Int × Int := if isW w = true then ((fst (fun k => ext (crossB w) k (w.length / 2) [] != 0) (w.length / 2) 0 : Nat), 0) else (0, 1)
theorem specLea_ev (w : List Int) : Ev (fun k => spec_LeastColours.f k w) (leastV w) := by
  unfold spec_LeastColours.f leastV
  refine Ev.bind (code10_ev w [] (by simp)) ?_
  by_cases h : isW w = true
  · rw [if_pos h, if_pos h, if_pos (by simp)]
    have hw := (isW_iff w).1 h
    have hle := hw.le
    refine Ev.congr (fun k => if_pos rfl) (Ev.bind (srows_ev w hw) ?_)
    obtain ⟨n, hn⟩ : ∃ n, n = w.length / 2 := ⟨_, rfl⟩
    rw [← hn]
    have key : ∀ d j, j + d = n → Ev (fun k => spec_LeastColours.l0 k (rowsOf w) (j : Int)) (((fst (fun k => ext (crossB w) k n [] != 0) d j : Nat) : Int), (0 : Int)) := by
      intro d
      induction d with
      | zero =>
        intro j hj
        have hp := ext_pos (crossB w) j n 0 (by omega)
        refine Ev_succ ?_
        simp only [spec_LeastColours.l0]
        refine Ev.bind (colour_ev w hw n hn j (by omega) n [] (by simp)) ?_
        exact Ev.congr (fun k => if_neg (by
          rw [show List.range 0 = [] from rfl] at hp; omega)) (Ev.now _)
      | succ d ih =>
        intro j hj
        refine Ev_succ ?_
        simp only [spec_LeastColours.l0]
        refine Ev.bind (colour_ev w hw n hn j (by omega) n [] (by simp)) ?_
        rw [fst, wS (by omega)]
        by_cases e : ext (crossB w) j n [] = 0
        · rw [if_neg (by simp [e])]
          exact Ev.congr (fun k => if_pos e) (ih (j + 1) (by omega))
        · rw [if_pos (by simp [e])]
          exact Ev.congr (fun k => if_neg e) (Ev.now _)
    exact key n 0 (by omega)
  · rw [if_neg h, if_neg h]
    exact Ev.congr (fun k => if_neg (by decide)) (Ev.now _)
/-- Below the first number of classes there is no colouring, at it there is one. -/
theorem ext_first (X : Nat → Nat → Bool) (n k : Nat) (hk : k ≤ n) (h : ∀ j, j < k → (clsOf X n).getD j 0 = 0) : ext X k n [] = (clsOf X n).getD k 0 * fall k k := by
  rw [← clsOf_ev]
  unfold ev
  rw [clsOf_len]
  refine sumR_one (f := fun j => (clsOf X n).getD j 0 * fall k j) (a := k) (n + 1) (by omega) (fun x hx hne => ?_)
  show (clsOf X n).getD x 0 * fall k x = 0
  rcases Nat.lt_or_gt_of_ne hne with g | g
  · rw [h x g, Int.zero_mul]
  · rw [fall_zero k x g, Int.mul_zero]
theorem first_class (X : Nat → Nat → Bool) (n : Nat) : ∀ d j, j + d ≤ n → (∀ i, i < j → (clsOf X n).getD i 0 = 0) → fst (fun k => ext X k n [] != 0) d j = fst (fun k => decide (0 < (clsOf X n).getD k 0)) d j
  | 0, _, _, _ => rfl
  | d + 1, j, hj, h => by
    have e := ext_first X n j (by omega) h
    have hf := fall_pos j j (Nat.le_refl _)
    have hb := (ext_bound X j n []).1
    rw [fst, fst]
    by_cases hz : (clsOf X n).getD j 0 = 0
    · rw [hz, Int.zero_mul] at e
      rw [if_neg (by simp [e]), if_neg (show ¬ decide (0 < (clsOf X n).getD j 0) = true from by rw [hz]; decide)]
      refine first_class X n d (j + 1) (by omega) (fun i hi => ?_)
      by_cases c : i = j
      · rw [c]; exact hz
      · exact h i (by omega)
    · have hne : ext X j n [] ≠ 0 := by rw [e]; exact Int.mul_ne_zero hz (by omega)
      have hp : 0 < (clsOf X n).getD j 0 := by
        rcases Int.lt_or_gt_of_ne hz with g | g
        · have : (clsOf X n).getD j 0 * fall j j < 0 := Int.mul_neg_of_neg_of_pos g hf
          omega
        · exact g
      rw [if_pos (by simp [hne]), if_pos (by simpa using hp)]
end Go.Proofs.Ytfijnlbkflmkbaa.Pure
