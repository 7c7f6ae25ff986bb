/- Plain laws: the reference's colouring polynomial (sums over sets of crossing pairs, with signs) is the program's. -/
import Derived.Test.YtnlhhbnoccobmaaFx117
import Derived.Test.YtnlhhbnoccobmaaPureChrom
import Derived.Test.YtnlhhbnoccobmaaPureTimes
namespace Go.Proofs.Ytnlhhbnoccobmaa.Chrom

/-! ### sets of edges, told by bits -/
def lblOf : List (Nat × Nat) → Nat → (Nat → Nat) → (Nat → Nat)
  | [], _, r => r
  | e :: E, s, r => lblOf E (s / 2) (if s % 2 = 1 then merge r e else r)
def sgnOf : List (Nat × Nat) → Nat → Int
  | [], _ => 1
  | _ :: E, s => (if s % 2 = 1 then -1 else 1) * sgnOf E (s / 2)
theorem sumR_two (f : Nat → Int) : ∀ m, sumR f (2 * m) = sumR (fun s => f (2 * s) + f (2 * s + 1)) m
  | 0 => rfl
  | m + 1 => by
    rw [show 2 * (m + 1) = 2 * m + 1 + 1 from by omega, sumR, sumR, sumR_two f m, sumR]; omega
theorem subs_sum (n : Nat) (x : Int) : ∀ (E : List (Nat × Nat)) (r : Nat → Nat), sumR (fun s => sgnOf E s * x ^ roots (lblOf E s r) 0 n) (2 ^ E.length) = subs n x E r
  | [], r => by simp [sumR, sgnOf, lblOf, subs]
  | e :: E, r => by
    rw [List.length_cons, Nat.pow_succ, Nat.mul_comm, sumR_two, subs, ← subs_sum n x E r, ← subs_sum n x E (merge r e)]
    have h : ∀ s, (sgnOf (e :: E) (2 * s) * x ^ roots (lblOf (e :: E) (2 * s) r) 0 n + sgnOf (e :: E) (2 * s + 1) * x ^ roots (lblOf (e :: E) (2 * s + 1) r) 0 n) = sgnOf E s * x ^ roots (lblOf E s r) 0 n - sgnOf E s * x ^ roots (lblOf E s (merge r e)) 0 n := by
      intro s
      rw [sgnOf, sgnOf, lblOf, lblOf, show 2 * s % 2 = 0 from by omega, show 2 * s / 2 = s from by omega, show (2 * s + 1) % 2 = 1 from by omega, show (2 * s + 1) / 2 = s from by omega]
      rw [if_neg (by decide), if_neg (by decide), if_pos rfl, if_pos rfl, Int.one_mul, Int.mul_assoc]
      omega
    rw [sumR_congr _ (g := fun s => sgnOf E s * x ^ roots (lblOf E s r) 0 n - sgnOf E s * x ^ roots (lblOf E s (merge r e)) 0 n) (fun s _ => h s), sumR_sub]
theorem sgn_is : ∀ (E : List (Nat × Nat)) (s : Nat), sgnOf E s = 1 ∨ sgnOf E s = -1
  | [], _ => .inl rfl
  | e :: E, s => by
    rw [sgnOf]
    rcases sgn_is E (s / 2) with h | h <;> rw [h] <;> split <;> simp
theorem Lab.lblOf : ∀ (E : List (Nat × Nat)) (s : Nat) {r : Nat → Nat}, Lab r → Lab (Chrom.lblOf E s r)
  | [], _, _, h => h
  | e :: E, s, r, h => by
    rw [Chrom.lblOf]
    refine Lab.lblOf E (s / 2) ?_
    split
    · exact h.merge e
    · exact h
/-- The chosen edges. -/
def sel : List (Nat × Nat) → Nat → List (Nat × Nat)
  | [], _ => []
  | e :: E, s => if s % 2 = 1 then e :: sel E (s / 2) else sel E (s / 2)
theorem lbl_sel : ∀ (E : List (Nat × Nat)) (s : Nat) (r : Nat → Nat), lblOf E s r = (sel E s).foldl merge r
  | [], _, _ => rfl
  | e :: E, s, r => by
    rw [lblOf, sel]
    split
    · rw [List.foldl_cons]; exact lbl_sel E _ _
    · exact lbl_sel E _ _
theorem merge_keep {r : Nat → Nat} {e : Nat × Nat} {u v : Nat} (h : r u = r v) : merge r e u = merge r e v := by unfold merge; rw [h]
theorem merge_one (r : Nat → Nat) (e : Nat × Nat) : merge r e e.1 = merge r e e.2 := by
  unfold merge
  by_cases h1 : r e.1 = max (r e.1) (r e.2) <;> by_cases h2 : r e.2 = max (r e.1) (r e.2)
  · rw [if_pos h1, if_pos h2]
  · rw [if_pos h1, if_neg h2]; omega
  · rw [if_neg h1, if_pos h2]; omega
  · omega
theorem fold_keep : ∀ (L : List (Nat × Nat)) {r : Nat → Nat} {u v : Nat}, r u = r v → L.foldl merge r u = L.foldl merge r v
  | [], _, _, _, h => h
  | e :: L, r, u, v, h => by rw [List.foldl_cons]; exact fold_keep L (merge_keep h)
theorem fold_one : ∀ (L : List (Nat × Nat)) (r : Nat → Nat) (e : Nat × Nat), e ∈ L → L.foldl merge r e.1 = L.foldl merge r e.2
  | [], _, _, h => absurd h (by simp)
  | a :: L, r, e, h => by
    rw [List.foldl_cons]
    rcases List.mem_cons.1 h with g | g
    · subst g; exact fold_keep L (merge_one r e)
    · exact fold_one L _ e g
theorem merge_two {r : Nat → Nat} {e : Nat × Nat} {S : Nat → Bool} (hS : ∀ u v, r u = r v → S u = S v) (he : S e.1 = S e.2) : ∀ u v, merge r e u = merge r e v → S u = S v := by
  intro u v h
  unfold merge at h
  have key : ∀ u v, r u = max (r e.1) (r e.2) → r v = min (r e.1) (r e.2) → S u = S v := by
    intro u v hu hv
    rcases Nat.le_total (r e.1) (r e.2) with g | g
    · rw [hS u e.2 (by omega), hS v e.1 (by omega)]; exact he.symm
    · rw [hS u e.1 (by omega), hS v e.2 (by omega)]; exact he
  by_cases h1 : r u = max (r e.1) (r e.2) <;> by_cases h2 : r v = max (r e.1) (r e.2)
  · exact hS u v (by omega)
  · rw [if_pos h1, if_neg h2] at h; exact key u v h1 h.symm
  · rw [if_neg h1, if_pos h2] at h; exact (key v u h2 h).symm
  · rw [if_neg h1, if_neg h2] at h; exact hS u v h
theorem fold_two {S : Nat → Bool} : ∀ (L : List (Nat × Nat)) (r : Nat → Nat), (∀ u v, r u = r v → S u = S v) → (∀ e ∈ L, S e.1 = S e.2) → ∀ u v, L.foldl merge r u = L.foldl merge r v → S u = S v
  | [], _, hS, _ => hS
  | e :: L, r, hS, hL => by
    rw [List.foldl_cons]
    exact fold_two L _ (merge_two hS (hL e List.mem_cons_self)) (fun a ha => hL a (List.mem_cons_of_mem _ ha))
end Go.Proofs.Ytnlhhbnoccobmaa.Chrom
namespace Go.Proofs.Ytnlhhbnoccobmaa.Pure
open Go.RowKit Go.Proofs.Ytnlhhbnoccobmaa.F Go.Proofs.Ytnlhhbnoccobmaa.Mem Go.Proofs.Ytnlhhbnoccobmaa.Chrom Go.Proofs.YtnlhhbnoccobmaaW.PrintWords Go.Proofs.YtnlhhbnoccobmaaW.PrintLast
set_option linter.unusedVariables false
set_option linter.unusedSimpArgs false

theorem roots_le (r : Nat → Nat) : ∀ d m, roots r m d ≤ d
  | 0, m => Nat.le_refl _
  | d + 1, m => by
    rw [roots]
    have := roots_le r d (m + 1)
    split <;> omega
theorem pairs_len (X : Nat → Nat → Bool) (n : Nat) (hn : n ≤ 6) : (pairsOf X n).length ≤ 36 := by
  unfold pairsOf
  have key : ∀ l : List Nat, (∀ i ∈ l, i ≤ 6) → (l.flatMap fun i => ((List.range i).filter fun k => X i k).map fun k => (i, k)).length ≤ l.length * 6 := by
    intro l
    induction l with
    | nil => intro _; simp
    | cons a l ih =>
      intro h
      have h1 := ih (fun x hx => h x (List.mem_cons_of_mem _ hx))
      have h2 := h a List.mem_cons_self
      have h3 : ((List.range a).filter fun k => X a k).length ≤ a := by have := List.length_filter_le (fun k => X a k) (List.range a); rw [List.length_range] at this; exact this
      rw [List.flatMap_cons, List.length_append, List.length_map, List.length_cons, Nat.succ_mul]
      omega
  have := key (List.range n) (fun i hi => by have := List.mem_range.1 hi; omega)
  rw [List.length_range] at this
  omega
/-- How many parts a set of crossing pairs leaves, and the counts behind some of the sets. -/
def qOf (w : List Int) (s : Nat) : Nat := roots (lblOf (pairsOf (crossB w) (w.length / 2)) s id) 0 (w.length / 2)
def sOf (w : List Int) (s : Nat) : Int := sgnOf (pairsOf (crossB w) (w.length / 2)) s
def polyTo (w : List Int) : Nat → List Int
  | 0 => List.replicate (w.length / 2 + 1) 0
  | m + 1 => (polyTo w m).set (qOf w m) (wrap64 ((polyTo w m).getD (qOf w m) 0 + sOf w m))
def polyV (w : List Int) : List Int := polyTo w (2 ^ (pairsOf (crossB w) (w.length / 2)).length)
theorem polyTo_len (w : List Int) : ∀ m, (polyTo w m).length = w.length / 2 + 1
  | 0 => by simp [polyTo]
  | m + 1 => by rw [polyTo, List.length_set]; exact polyTo_len w m
theorem polyTo_pv (w : List Int) (hw : Word w) : ∀ m : Nat, m ≤ 68719476736 → Lo (m : Int) (polyTo w m) ∧ ∀ x : Int, pv x (polyTo w m) = sumR (fun s => sOf w s * x ^ qOf w s) m
  | 0, _ => ⟨lo_zeros _ (by omega) _, fun x => by rw [polyTo, pv_replicate]; rfl⟩
  | m + 1, hm => by
    have ih := polyTo_pv w hw m (by omega)
    have hl := polyTo_len w m
    have hq : qOf w m ≤ w.length / 2 := roots_le _ _ _
    have hg := ih.1 (qOf w m)
    have hs := sgn_is (pairsOf (crossB w) (w.length / 2)) m
    have hs' : sOf w m = 1 ∨ sOf w m = -1 := hs
    have hb : -((m + 1 : Nat) : Int) ≤ (polyTo w m).getD (qOf w m) 0 + sOf w m ∧ (polyTo w m).getD (qOf w m) 0 + sOf w m ≤ ((m + 1 : Nat) : Int) := by
      rcases hs' with h | h <;> rw [h] <;> omega
    have he : wrap64 ((polyTo w m).getD (qOf w m) 0 + sOf w m) = (polyTo w m).getD (qOf w m) 0 + sOf w m := by unfold wrap64; omega
    rw [polyTo, he]
    refine ⟨(ih.1.le (by omega)).set _ _ hb, fun x => ?_⟩
    rw [pv_set x _ _ _ (by omega), ih.2 x, sumR]
theorem polyV_pv (w : List Int) (hw : Word w) (x : Int) : pv x (polyV w) = subs (w.length / 2) x (pairsOf (crossB w) (w.length / 2)) id := by
  have hle := hw.le
  have hp := pairs_len (crossB w) (w.length / 2) (by omega)
  have h36 : 2 ^ (pairsOf (crossB w) (w.length / 2)).length ≤ 68719476736 := Nat.le_trans (Nat.pow_le_pow_right (n := 2) (by decide) hp) (by decide)
  unfold polyV
  rw [(polyTo_pv w hw _ h36).2 x, ← subs_sum]
  rfl
theorem colour_poly (w : List Int) (hw : Word w) (hW : isW w = true) : Ev (fun k => impl_colouring.f k w) (polyV w) := by
  obtain ⟨r, hr, hl, hp, _⟩ := colouring_ev w hw hW
  have e : r = polyV w := pv_inj r (polyV w) (by rw [hl]; exact (polyTo_len w _).symm) (fun k _ => by
    rw [hp, polyV_pv w hw]
    exact clsOf_subs (crossB w) (w.length / 2) k)
  rw [← e]; exact hr
theorem polyV_le (w : List Int) (h : isW w = true) : (polyV w).length ≤ 1048576 := by
  have hle := ((isW_iff w).1 h).le
  have := polyTo_len w (2 ^ (pairsOf (crossB w) (w.length / 2)).length)
  unfold polyV
  omega
end Go.Proofs.Ytnlhhbnoccobmaa.Pure
