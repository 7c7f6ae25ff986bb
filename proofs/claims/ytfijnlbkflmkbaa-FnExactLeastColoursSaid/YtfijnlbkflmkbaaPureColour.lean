/- Plain laws: the reference's colourings are counted by Chrom.ext. -/
import Derived.Test.YtfijnlbkflmkbaaFgC
import Derived.Test.YtfijnlbkflmkbaaFx115
import Derived.Test.YtfijnlbkflmkbaaPureE
import Derived.Test.YtfijnlbkflmkbaaPureMem
import Derived.Test.YtfijnlbkflmkbaaPureChrom
namespace Go.Proofs.Ytfijnlbkflmkbaa.Pure
open Go.RowKit Go.Proofs.Ytfijnlbkflmkbaa.F Go.Proofs.Ytfijnlbkflmkbaa.Mem Go.Proofs.Ytfijnlbkflmkbaa.Chrom Go.Proofs.YtfijnlbkflmkbaaW.PrintWords Go.Proofs.YtfijnlbkflmkbaaW.PrintLast
set_option linter.unusedVariables false
set_option linter.unusedSimpArgs false

theorem sumR_bound (f : Nat → Int) (B : Int) : ∀ n : Nat, (∀ x, x < n → 0 ≤ f x ∧ f x ≤ B) → 0 ≤ sumR f n ∧ sumR f n ≤ n * B
  | 0, _ => ⟨Int.le_refl _, by simp [sumR]⟩
  | n + 1, h => by
    have ih := sumR_bound f B n (fun x hx => h x (by omega))
    have h1 := h n (by omega)
    rw [sumR, Int.natCast_succ, Int.add_mul, Int.one_mul]
    omega
theorem ext_bound (X : Nat → Nat → Bool) (K : Nat) : ∀ (d : Nat) (c : List Nat), 0 ≤ ext X K d c ∧ ext X K d c ≤ ((K ^ d : Nat) : Int)
  | 0, c => by rw [ext]; simp
  | d + 1, c => by
    rw [ext]
    have := sumR_bound (fun x => if okc X c x = true then ext X K d (c ++ [x]) else 0) ((K ^ d : Nat) : Int) K (fun x hx => by
      have := ext_bound X K d (c ++ [x])
      show 0 ≤ (if okc X c x = true then ext X K d (c ++ [x]) else 0) ∧ (if okc X c x = true then ext X K d (c ++ [x]) else 0) ≤ _
      split <;> omega)
    rw [Nat.pow_succ, Int.natCast_mul, Int.mul_comm]
    exact this
/-- Whether a colour fits with the first i chords. -/
def okcTo (X : Nat → Nat → Bool) (c : List Nat) (x i : Nat) : Bool := (List.range i).all fun v => !(X c.length v) || !(at_ c v == x)
theorem okcTo_succ (X : Nat → Nat → Bool) (c : List Nat) (x i : Nat) : okcTo X c x (i + 1) = (okcTo X c x i && (!(X c.length i) || !(at_ c i == x))) := by
  unfold okcTo; rw [List.range_succ, List.all_append, List.all_cons, List.all_nil, Bool.and_true]
theorem rd_rowsK {w : List Int} {i : Nat} (hi : i < w.length / 2) : rd_L1 (rowsOf w) (i : Int) = rowTo w i (w.length / 2) := by
  unfold rd_L1; rw [Int.toNat_natCast]; exact rowsOf_get hi
theorem ent_zero (w : List Int) (i k : Nat) : ent w i k = 0 ↔ crossB w i k = false := by
  unfold ent; cases crossB w i k <;> simp
theorem colour_l1 (w : List Int) (hw : Word w) (n : Nat) (hn : n = w.length / 2) (K : Nat) (c : List Nat) (hc : c.length < n) (sum : Int) (x : Nat) (r : Int)
    (hr : Ev (fun k => if okc (crossB w) c x = true then ((spec_l01Own.f (ints c)).bind fun t => (if t.length < 17592186044416 then ((spec_l10Colour.f k (rowsOf w) (t ++ [(x : Int)]) (K : Int)).bind fun u => (spec_l10Colour.l0 k (rowsOf w) (ints c) (K : Int) (c.length : Int) (wrap64 (sum + u)) (wrap64 ((x : Int) + 1)))) else (none))) else (spec_l10Colour.l0 k (rowsOf w) (ints c) (K : Int) (c.length : Int) sum (wrap64 ((x : Int) + 1)))) r) :
    Ev (fun k => spec_l10Colour.l1 k (rowsOf w) (ints c) (K : Int) (c.length : Int) sum (x : Int) true 0) r := by
  have hle := hw.le
  have hl : (rowsOf w).length = n := by rw [hn]; exact rowsTo_len w _
  have hil := ints_len c
  have key : ∀ q i, i + q = c.length → Ev (fun k => spec_l10Colour.l1 k (rowsOf w) (ints c) (K : Int) (c.length : Int) sum (x : Int) (okcTo (crossB w) c x i) (i : Int)) r := by
    intro q
    induction q with
    | zero =>
      intro i hi
      obtain rfl : i = c.length := by omega
      refine Ev_succ ?_
      simp only [spec_l10Colour.l1]
      exact Ev.congr (fun k => if_neg (by omega)) hr
    | succ q ihq =>
      intro i hi
      have hh := ihq (i + 1) (by omega)
      rw [okcTo_succ] at hh
      refine Ev_succ ?_
      simp only [spec_l10Colour.l1]
      refine Ev.congr (fun k => if_pos (by omega)) ?_
      rw [rd_rowsK (show c.length < _ by omega), rowTo_len, rdN, rowTo_get (by omega), rdN, ints_getD c i (by omega), wS (by omega)]
      by_cases hf : okcTo (crossB w) c x i = true
      · rw [hf, Bool.true_and] at hh
        refine Ev.congr (fun k => if_pos hf) (Ev.congr (fun k => if_pos (by omega)) (Ev.congr (fun k => if_pos (by omega)) (Ev.congr (fun k => if_pos (by omega)) (Ev.congr (fun k => if_pos (by omega)) ?_))))
        by_cases hx : crossB w c.length i = false
        · rw [hx, Bool.not_false, Bool.true_or] at hh
          exact Ev.congr (fun k => if_pos ((ent_zero w _ _).2 hx)) hh
        · rw [show crossB w c.length i = true from by simpa using hx, Bool.not_true, Bool.false_or] at hh
          refine Ev.congr (fun k => if_neg (fun h => hx ((ent_zero w _ _).1 h))) (Ev.congr (fun k => if_pos (by omega)) ?_)
          rw [show (((c.getD i 0 : Nat) : Int) != (x : Int)) = !(at_ c i == x) from by
            show (!((((c.getD i 0 : Nat) : Int)) == (x : Int))) = !(c.getD i 0 == x)
            congr 1
            rw [Bool.eq_iff_iff, beq_iff_eq, beq_iff_eq]; omega]
          exact hh
      · rw [show okcTo (crossB w) c x i = false from by simpa using hf, Bool.false_and] at hh
        exact Ev.congr (fun k => if_neg hf) hh
  exact key c.length 0 (by omega)
theorem colour_ev (w : List Int) (hw : Word w) (n : Nat) (hn : n = w.length / 2) (K : Nat) (hK : K ≤ 7) : ∀ (d : Nat) (c : List Nat), c.length + d = n → Ev (fun k => spec_l10Colour.f k (rowsOf w) (ints c) (K : Int)) (ext (crossB w) K d c) := by
  have hle := hw.le
  have hl : (rowsOf w).length = n := by rw [hn]; exact rowsTo_len w _
  intro d
  induction d with
  | zero =>
    intro c hc
    have hil := ints_len c
    refine Ev_succ ?_
    simp only [spec_l10Colour.f]
    rw [ext]
    exact Ev.congr (fun k => if_pos (by omega)) (Ev.now _)
  | succ d ih =>
    intro c hc
    have hil := ints_len c
    refine Ev_succ ?_
    simp only [spec_l10Colour.f]
    refine Ev.congr (fun k => if_neg (by omega)) ?_
    rw [hil, ext]
    have hp : K ^ d ≤ 117649 := Nat.le_trans (Nat.pow_le_pow_left hK d) (Nat.le_trans (Nat.pow_le_pow_right (n := 7) (by decide) (show d ≤ 6 by omega)) (by decide))
    have hb : ∀ x, 0 ≤ (if okc (crossB w) c x = true then ext (crossB w) K d (c ++ [x]) else 0) ∧ (if okc (crossB w) c x = true then ext (crossB w) K d (c ++ [x]) else 0) ≤ 117649 := fun x => by
      have := ext_bound (crossB w) K d (c ++ [x])
      split <;> omega
    generalize hF : (fun x => if okc (crossB w) c x = true then ext (crossB w) K d (c ++ [x]) else 0) = F
    have hb2 : ∀ x, 0 ≤ F x ∧ F x ≤ 117649 := fun x => by rw [← hF]; exact hb x
    have key : ∀ q x, x + q = K → Ev (fun k => spec_l10Colour.l0 k (rowsOf w) (ints c) (K : Int) (c.length : Int) (sumR F x) (x : Int)) (sumR F K) := by
      intro q
      induction q with
      | zero =>
        intro x hx
        obtain rfl : x = K := by omega
        refine Ev_succ ?_
        simp only [spec_l10Colour.l0]
        exact Ev.congr (fun k => if_neg (by omega)) (Ev.now _)
      | succ q ihq =>
        intro x hx
        have hh := ihq (x + 1) (by omega)
        have h1 := sumR_bound F 117649 x (fun y _ => hb2 y)
        have h2 := hb2 x
        rw [sumR] at hh
        refine Ev_succ ?_
        simp only [spec_l10Colour.l0]
        refine Ev.congr (fun k => if_pos (by omega)) ?_
        refine colour_l1 w hw n hn K c (by omega) _ x _ ?_
        rw [wS (by omega)]
        by_cases hf : okc (crossB w) c x = true
        · refine Ev.congr (fun k => if_pos hf) ?_
          rw [own_f _ (by omega)]
          refine Ev.congr (fun k => (Option.bind_some _ _).trans (if_pos (by omega))) ?_
          rw [show ints c ++ [(x : Int)] = ints (c ++ [x]) from (ints_app c [x]).symm]
          refine Ev.bind (ih (c ++ [x]) (by rw [List.length_append, List.length_singleton]; omega)) ?_
          rw [show ext (crossB w) K d (c ++ [x]) = F x from by rw [← hF]; exact (if_pos hf).symm, show wrap64 (sumR F x + F x) = sumR F x + F x from by
            have : (x : Int) * 117649 ≤ 7 * 117649 := Int.mul_le_mul_of_nonneg_right (by omega) (by decide)
            unfold wrap64; omega]
          exact hh
        · refine Ev.congr (fun k => if_neg hf) ?_
          rw [show F x = 0 from by rw [← hF]; exact if_neg hf, Int.add_zero] at hh
          exact hh
    exact key K 0 (by omega)
end Go.Proofs.Ytfijnlbkflmkbaa.Pure
