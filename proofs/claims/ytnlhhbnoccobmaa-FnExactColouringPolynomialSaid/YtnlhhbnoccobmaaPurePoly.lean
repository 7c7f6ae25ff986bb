/- Plain laws: the reference's colouring polynomial (sums over sets of crossing pairs, with signs) is the program's. -/
import Derived.Test.YtnlhhbnoccobmaaFx117
import Derived.Test.YtnlhhbnoccobmaaFx36
import Derived.Test.YtnlhhbnoccobmaaPureSubs
import Derived.Test.YtnlhhbnoccobmaaPureTimes
namespace Go.Proofs.Ytnlhhbnoccobmaa.Pure
open Go.RowKit Go.Proofs.Ytnlhhbnoccobmaa.F Go.Proofs.Ytnlhhbnoccobmaa.Mem Go.Proofs.Ytnlhhbnoccobmaa.Chrom Go.Proofs.YtnlhhbnoccobmaaW.PrintWords Go.Proofs.YtnlhhbnoccobmaaW.PrintLast
set_option linter.unusedVariables false
set_option linter.unusedSimpArgs false

theorem roots_le (r : Nat → Nat) : ∀ d m, roots r m d ≤ d
  | 0, m => Nat.le_refl _
  | d + 1, m => by
    rw [roots]
    have := roots_le r d (m + 1)
    split <;> omega
theorem pairs_len (X : Nat → Nat → Bool) (n : Nat) (hn : n ≤ 6) : (pairsOf X n).length ≤ 36 := by
  unfold pairsOf
  have key : ∀ l : List Nat, (∀ i ∈ l, i ≤ 6) → (l.flatMap fun i => ((List.range i).filter fun k => X i k).map fun k => (i, k)).length ≤ l.length * 6 := by
    intro l
    induction l with
    | nil => intro _; simp
    | cons a l ih =>
      intro h
      have h1 := ih (fun x hx => h x (List.mem_cons_of_mem _ hx))
      have h2 := h a List.mem_cons_self
      have h3 : ((List.range a).filter fun k => X a k).length ≤ a := by have := List.length_filter_le (fun k => X a k) (List.range a); rw [List.length_range] at this; exact this
      rw [List.flatMap_cons, List.length_append, List.length_map, List.length_cons, Nat.succ_mul]
      omega
  have := key (List.range n) (fun i hi => by have := List.mem_range.1 hi; omega)
  rw [List.length_range] at this
  omega
/-- How many parts a set of crossing pairs leaves, and the counts behind some of the sets. -/
def qOf (w : List Int) (s : Nat) : Nat := roots (lblOf (pairsOf (crossB w) (w.length / 2)) s id) 0 (w.length / 2)
def sOf (w : List Int) (s : Nat) : Int := sgnOf (pairsOf (crossB w) (w.length / 2)) s
def polyTo (w : List Int) : Nat → List Int
  | 0 => List.replicate (w.length / 2 + 1) 0
  | m + 1 => (polyTo w m).set (qOf w m) (wrap64 ((polyTo w m).getD (qOf w m) 0 + sOf w m))
def polyV (w : List Int) : List Int := polyTo w (2 ^ (pairsOf (crossB w) (w.length / 2)).length)
theorem polyTo_len (w : List Int) : ∀ m, (polyTo w m).length = w.length / 2 + 1
  | 0 => by simp [polyTo]
  | m + 1 => by rw [polyTo, List.length_set]; exact polyTo_len w m
theorem polyTo_pv (w : List Int) (hw : Word w) : ∀ m : Nat, m ≤ 68719476736 → Lo (m : Int) (polyTo w m) ∧ ∀ x : Int, pv x (polyTo w m) = sumR (fun s => sOf w s * x ^ qOf w s) m
  | 0, _ => ⟨lo_zeros _ (by omega) _, fun x => by rw [polyTo, pv_replicate]; rfl⟩
  | m + 1, hm => by
    have ih := polyTo_pv w hw m (by omega)
    have hl := polyTo_len w m
    have hq : qOf w m ≤ w.length / 2 := roots_le _ _ _
    have hg := ih.1 (qOf w m)
    have hs := sgn_is (pairsOf (crossB w) (w.length / 2)) m
    have hs' : sOf w m = 1 ∨ sOf w m = -1 := hs
    have hb : -((m + 1 : Nat) : Int) ≤ (polyTo w m).getD (qOf w m) 0 + sOf w m ∧ (polyTo w m).getD (qOf w m) 0 + sOf w m ≤ ((m + 1 : Nat) : Int) := by
      rcases hs' with h | h <;> rw [h] <;> omega
    have he : wrap64 ((polyTo w m).getD (qOf w m) 0 + sOf w m) = (polyTo w m).getD (qOf w m) 0 + sOf w m := by unfold wrap64; omega
    rw [polyTo, he]
    refine ⟨(ih.1.le (by omega)).set _ _ hb, fun x => ?_⟩
    rw [pv_set x _ _ _ (by omega), ih.2 x, sumR]
theorem polyV_pv (w : List Int) (hw : Word w) (x : Int) : pv x (polyV w) = subs (w.length / 2) x (pairsOf (crossB w) (w.length / 2)) id := by
  have hle := hw.le
  have hp := pairs_len (crossB w) (w.length / 2) (by omega)
  have h36 : 2 ^ (pairsOf (crossB w) (w.length / 2)).length ≤ 68719476736 := Nat.le_trans (Nat.pow_le_pow_right (n := 2) (by decide) hp) (by decide)
  unfold polyV
  rw [(polyTo_pv w hw _ h36).2 x, ← subs_sum]
  rfl
theorem colour_poly (w : List Int) (hw : Word w) (hW : isW w = true) : Ev (fun k => impl_colouring.f k w) (polyV w) := by
  obtain ⟨r, hr, hl, hp, _⟩ := colouring_ev w hw hW
  have e : r = polyV w := pv_inj r (polyV w) (by rw [hl]; exact (polyTo_len w _).symm) (fun k _ => by
    rw [hp, polyV_pv w hw]
    exact clsOf_subs (crossB w) (w.length / 2) k)
  rw [← e]; exact hr
def colV (w : List Int) : List Int × Int := if isW w = true then (polyV w, 0) else ([], 1)
theorem implCol_ev (w : List Int) (hwf : ∀ x ∈ w, (Lit.int .i64 x).wf = true) : Ev (fun k => impl_ColouringPolynomial.f k w) (colV w) := by
  unfold impl_ColouringPolynomial.f colV
  refine Ev.bind (isWord_ev w hwf) ?_
  by_cases h : isW w = true
  · rw [if_pos h]
    refine Ev.congr (fun k => if_pos h) ?_
    exact Ev.bind (colour_poly w ((isW_iff w).1 h) h) (Ev.now _)
  · rw [if_neg h]
    exact Ev.congr (fun k => if_neg h) (Ev.now _)
theorem colV_len (w : List Int) : (colV w).1.length ≤ 1048576 := by
  unfold colV
  by_cases h : isW w = true
  · rw [if_pos h]
    have hle := ((isW_iff w).1 h).le
    have := polyTo_len w (2 ^ (pairsOf (crossB w) (w.length / 2)).length)
    show (polyV w).length ≤ _
    unfold polyV
    omega
  · rw [if_neg h]; simp
end Go.Proofs.Ytnlhhbnoccobmaa.Pure
