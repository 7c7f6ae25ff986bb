/- Where the first number of a list stands of which P holds. -/
namespace Go.Proofs.Ytfijnlbkflmkbaa.Pure
/-- Where the first number of a list stands of which P holds. -/
def idxZ (P : Int → Bool) : List Int → Nat → Int
  | [], _ => -1
  | r :: t, n => if P r = true then n else idxZ P t (n + 1)
theorem idxZ_skip {P : Int → Bool} {l : List Int} : ∀ n : Nat, n ≤ l.length → (l.take n).any P = false → idxZ P l 0 = idxZ P (l.drop n) n
  | 0, _, _ => rfl
  | n + 1, hn, h => by
    rw [List.take_succ_eq_append_getElem (by omega), List.any_append, Bool.or_eq_false_iff] at h
    rw [idxZ_skip n (by omega) h.1, List.drop_eq_getElem_cons (by omega), idxZ, if_neg (by simpa using h.2)]
end Go.Proofs.Ytfijnlbkflmkbaa.Pure
