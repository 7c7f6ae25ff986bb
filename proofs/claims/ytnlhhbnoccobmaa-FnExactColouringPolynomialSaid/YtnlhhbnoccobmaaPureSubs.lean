/- Plain laws: sums over sets of edges told by bits; labels of a set of edges. -/
import Derived.Test.YtnlhhbnoccobmaaPureChrom
namespace Go.Proofs.Ytnlhhbnoccobmaa.Chrom

/-! ### sets of edges, told by bits -/
def lblOf : List (Nat × Nat) → Nat → (Nat → Nat) → (Nat → Nat)
  | [], _, r => r
  | e :: E, s, r => lblOf E (s / 2) (if s % 2 = 1 then merge r e else r)
def sgnOf : List (Nat × Nat) → Nat → Int
  | [], _ => 1
  | _ :: E, s => (if s % 2 = 1 then -1 else 1) * sgnOf E (s / 2)
theorem sumR_two (f : Nat → Int) : ∀ m, sumR f (2 * m) = sumR (fun s => f (2 * s) + f (2 * s + 1)) m
  | 0 => rfl
  | m + 1 => by
    rw [show 2 * (m + 1) = 2 * m + 1 + 1 from by omega, sumR, sumR, sumR_two f m, sumR]; omega
theorem subs_sum (n : Nat) (x : Int) : ∀ (E : List (Nat × Nat)) (r : Nat → Nat), sumR (fun s => sgnOf E s * x ^ roots (lblOf E s r) 0 n) (2 ^ E.length) = subs n x E r
  | [], r => by simp [sumR, sgnOf, lblOf, subs]
  | e :: E, r => by
    rw [List.length_cons, Nat.pow_succ, Nat.mul_comm, sumR_two, subs, ← subs_sum n x E r, ← subs_sum n x E (merge r e)]
    have h : ∀ s, (sgnOf (e :: E) (2 * s) * x ^ roots (lblOf (e :: E) (2 * s) r) 0 n + sgnOf (e :: E) (2 * s + 1) * x ^ roots (lblOf (e :: E) (2 * s + 1) r) 0 n) = sgnOf E s * x ^ roots (lblOf E s r) 0 n - sgnOf E s * x ^ roots (lblOf E s (merge r e)) 0 n := by
      intro s
      rw [sgnOf, sgnOf, lblOf, lblOf, show 2 * s % 2 = 0 from by omega, show 2 * s / 2 = s from by omega, show (2 * s + 1) % 2 = 1 from by omega, show (2 * s + 1) / 2 = s from by omega]
      rw [if_neg (by decide), if_neg (by decide), if_pos rfl, if_pos rfl, Int.one_mul, Int.mul_assoc]
      omega
    rw [sumR_congr _ (g := fun s => sgnOf E s * x ^ roots (lblOf E s r) 0 n - sgnOf E s * x ^ roots (lblOf E s (merge r e)) 0 n) (fun s _ => h s), sumR_sub]
theorem sgn_is : ∀ (E : List (Nat × Nat)) (s : Nat), sgnOf E s = 1 ∨ sgnOf E s = -1
  | [], _ => .inl rfl
  | e :: E, s => by
    rw [sgnOf]
    rcases sgn_is E (s / 2) with h | h <;> rw [h] <;> split <;> simp
theorem Lab.lblOf : ∀ (E : List (Nat × Nat)) (s : Nat) {r : Nat → Nat}, Lab r → Lab (Chrom.lblOf E s r)
  | [], _, _, h => h
  | e :: E, s, r, h => by
    rw [Chrom.lblOf]
    refine Lab.lblOf E (s / 2) ?_
    split
    · exact h.merge e
    · exact h
/-- The chosen edges. -/
def sel : List (Nat × Nat) → Nat → List (Nat × Nat)
  | [], _ => []
  | e :: E, s => if s % 2 = 1 then e :: sel E (s / 2) else sel E (s / 2)
theorem lbl_sel : ∀ (E : List (Nat × Nat)) (s : Nat) (r : Nat → Nat), lblOf E s r = (sel E s).foldl merge r
  | [], _, _ => rfl
  | e :: E, s, r => by
    rw [lblOf, sel]
    split
    · rw [List.foldl_cons]; exact lbl_sel E _ _
    · exact lbl_sel E _ _
theorem merge_keep {r : Nat → Nat} {e : Nat × Nat} {u v : Nat} (h : r u = r v) : merge r e u = merge r e v := by unfold merge; rw [h]
theorem merge_one (r : Nat → Nat) (e : Nat × Nat) : merge r e e.1 = merge r e e.2 := by
  unfold merge
  by_cases h1 : r e.1 = max (r e.1) (r e.2) <;> by_cases h2 : r e.2 = max (r e.1) (r e.2)
  · rw [if_pos h1, if_pos h2]
  · rw [if_pos h1, if_neg h2]; omega
  · rw [if_neg h1, if_pos h2]; omega
  · omega
theorem fold_keep : ∀ (L : List (Nat × Nat)) {r : Nat → Nat} {u v : Nat}, r u = r v → L.foldl merge r u = L.foldl merge r v
  | [], _, _, _, h => h
  | e :: L, r, u, v, h => by rw [List.foldl_cons]; exact fold_keep L (merge_keep h)
theorem fold_one : ∀ (L : List (Nat × Nat)) (r : Nat → Nat) (e : Nat × Nat), e ∈ L → L.foldl merge r e.1 = L.foldl merge r e.2
  | [], _, _, h => absurd h (by simp)
  | a :: L, r, e, h => by
    rw [List.foldl_cons]
    rcases List.mem_cons.1 h with g | g
    · subst g; exact fold_keep L (merge_one r e)
    · exact fold_one L _ e g
theorem merge_two {r : Nat → Nat} {e : Nat × Nat} {S : Nat → Bool} (hS : ∀ u v, r u = r v → S u = S v) (he : S e.1 = S e.2) : ∀ u v, merge r e u = merge r e v → S u = S v := by
  intro u v h
  unfold merge at h
  have key : ∀ u v, r u = max (r e.1) (r e.2) → r v = min (r e.1) (r e.2) → S u = S v := by
    intro u v hu hv
    rcases Nat.le_total (r e.1) (r e.2) with g | g
    · rw [hS u e.2 (by omega), hS v e.1 (by omega)]; exact he.symm
    · rw [hS u e.1 (by omega), hS v e.2 (by omega)]; exact he
  by_cases h1 : r u = max (r e.1) (r e.2) <;> by_cases h2 : r v = max (r e.1) (r e.2)
  · exact hS u v (by omega)
  · rw [if_pos h1, if_neg h2] at h; exact key u v h1 h.symm
  · rw [if_neg h1, if_pos h2] at h; exact (key v u h2 h).symm
  · rw [if_neg h1, if_neg h2] at h; exact hS u v h
theorem fold_two {S : Nat → Bool} : ∀ (L : List (Nat × Nat)) (r : Nat → Nat), (∀ u v, r u = r v → S u = S v) → (∀ e ∈ L, S e.1 = S e.2) → ∀ u v, L.foldl merge r u = L.foldl merge r v → S u = S v
  | [], _, hS, _ => hS
  | e :: L, r, hS, hL => by
    rw [List.foldl_cons]
    exact fold_two L _ (merge_two hS (hL e List.mem_cons_self)) (fun a ha => hL a (List.mem_cons_of_mem _ ha))
end Go.Proofs.Ytnlhhbnoccobmaa.Chrom
