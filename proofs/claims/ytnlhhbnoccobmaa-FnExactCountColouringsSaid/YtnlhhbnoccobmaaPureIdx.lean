/- Where the first of a list stands of which P holds. -/
namespace Go.Proofs.Ytnlhhbnoccobmaa.Pure
/-- Where the first of a list stands of which P holds. -/
def idxF (P : Nat → Bool) : List Nat → Nat → Int
  | [], _ => -1
  | r :: t, n => if P r = true then n else idxF P t (n + 1)
theorem idxF_ge (P : Nat → Bool) : ∀ (l : List Nat) (n : Nat), decide (0 ≤ idxF P l n) = l.any P
  | [], n => by simp [idxF]
  | r :: t, n => by
    rw [idxF, List.any_cons]
    by_cases h : P r = true
    · rw [if_pos h, h, Bool.true_or]; simp
    · rw [if_neg h, show P r = false from by simpa using h, Bool.false_or]; exact idxF_ge P t (n + 1)
theorem idxF_skip {P : Nat → Bool} {l : List Nat} : ∀ n : Nat, n ≤ l.length → (l.take n).any P = false → idxF P l 0 = idxF P (l.drop n) n
  | 0, _, _ => rfl
  | n + 1, hn, h => by
    rw [List.take_succ_eq_append_getElem (by omega), List.any_append, Bool.or_eq_false_iff] at h
    rw [idxF_skip n (by omega) h.1, List.drop_eq_getElem_cons (by omega), idxF, if_neg (by simpa using h.2)]
end Go.Proofs.Ytnlhhbnoccobmaa.Pure
