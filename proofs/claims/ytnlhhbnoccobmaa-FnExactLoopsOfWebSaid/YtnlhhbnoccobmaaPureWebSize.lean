/- Plain laws: how many edges the map of a web holds: half as many as there are places. -/
import Derived.Test.YtnlhhbnoccobmaaPureWebMap
namespace Go.Proofs.Ytnlhhbnoccobmaa.Web
open Go.RowKit Go.ChangeShapes Go.Proofs.Ytnlhhbnoccobmaa.Mem
set_option linter.unusedVariables false
set_option linter.unusedSimpArgs false

theorem GTo_tidy (I : List (Int × Nat)) : ∀ p, Maps.Tidy (GTo I p)
  | 0 => Maps.tidy_empty
  | p + 1 => (GTo_tidy I p).put (show WideAt.IsKeyLit (keyL _) from trivial) _
theorem GTo_size (I : List (Int × Nat)) : ∀ p, p ≤ I.length → Maps.size (GTo I p) = ((I.take p).map Prod.fst).eraseDups.length
  | 0, _ => by simp [GTo, Maps.size]
  | p + 1, hp => by
    have ih := GTo_size I p (by omega)
    have hh := GTo_has I (I.getD p (0, 0)).1 p (by omega)
    rw [GTo, Maps.size_put (GTo_tidy I p), ih, hh, take_snocD I p (0, 0) (by omega), List.map_append, List.eraseDups_append, List.length_append]
    generalize (I.getD p (0, 0)) = q
    by_cases hm : q.1 ∈ (I.take p).map Prod.fst
    · have h1 : (ends (I.take p) q.1).isEmpty = false := by
        obtain ⟨x, hx, he⟩ := List.mem_map.1 hm
        have : x.2 ∈ ends (I.take p) q.1 := mem_ends.2 (by rw [← he]; exact hx)
        cases h : ends (I.take p) q.1 with
        | nil => rw [h] at this; cases this
        | cons a l => rfl
      rw [h1]
      have h2 : ([q].map Prod.fst).removeAll ((I.take p).map Prod.fst) = [] := by
        simp only [List.removeAll, List.map_cons, List.map_nil, List.filter_cons, List.filter_nil]
        rw [if_neg (by simpa [List.elem_eq_mem] using hm)]
      rw [h2]
      rfl
    · have h1 : (ends (I.take p) q.1).isEmpty = true := by
        cases h : ends (I.take p) q.1 with
        | nil => rfl
        | cons a l =>
          have : (q.1, a) ∈ I.take p := mem_ends.1 (by rw [h]; exact List.mem_cons_self)
          exact absurd (List.mem_map.2 ⟨_, this, rfl⟩) hm
      rw [h1]
      have h2 : ([q].map Prod.fst).removeAll ((I.take p).map Prod.fst) = [q.1] := by
        simp only [List.removeAll, List.map_cons, List.map_nil, List.filter_cons, List.filter_nil]
        rw [if_pos (by simpa [List.elem_eq_mem] using hm)]
      rw [h2]
      rfl
theorem len_strike (a : Int) : ∀ l : List Int, (l.filter fun b => !b == a).length + l.count a = l.length
  | [] => rfl
  | b :: l => by
    have ih := len_strike a l
    by_cases h : b = a
    · subst h; simp; omega
    · have e : (b == a) = false := by simpa using h
      simp [List.filter_cons, List.count_cons, e]; omega
theorem erase_two : ∀ (m : Nat) (E : List Int), E.length ≤ m → (∀ e ∈ E, E.count e = 2) → 2 * E.eraseDups.length = E.length
  | _, [], _, _ => rfl
  | 0, a :: as, h, _ => absurd h (by simp)
  | m + 1, a :: as, h, h2 => by
    rw [List.eraseDups_cons, List.length_cons, List.length_cons]
    have ha := h2 a List.mem_cons_self
    rw [List.count_cons_self] at ha
    have hl := len_strike a as
    rw [List.length_cons] at h
    have := erase_two m (as.filter fun b => !b == a) (by omega) (fun e he => by
      rw [List.mem_filter] at he
      have hne : (e == a) = false := by simpa using he.2
      rw [List.count_filter (by simpa using he.2)]
      have := h2 e (List.mem_cons_of_mem _ he.1)
      rw [List.count_cons] at this
      have g : (a == e) = false := by rw [beq_eq_false_iff_ne] at hne ⊢; exact Ne.symm hne
      simpa [g] using this)
    omega
theorem ends_len (I : List (Int × Nat)) (e : Int) : (ends I e).length = (I.map Prod.fst).count e := by
  unfold ends
  rw [List.length_map, List.count, List.countP_map, ← List.countP_eq_length_filter]
  rfl
theorem edges_half {legs : List Int} {forks : List (List Int)} (h3 : ∀ f ∈ forks, f.length = 3) (h : twiceB legs forks = true) : Maps.size (GTo (inc legs forks) (inc legs forks).length) = (legs.length + 3 * forks.length) / 2 := by
  have hl := inc_len (legs := legs) h3
  rw [GTo_size _ _ (Nat.le_refl _), List.take_length]
  have := erase_two _ ((inc legs forks).map Prod.fst) (Nat.le_refl _) (fun e he => by
    obtain ⟨p, hp, rfl⟩ := List.mem_map.1 he
    rw [← ends_len]
    unfold twiceB at h
    have := List.all_eq_true.1 h p hp
    simp only [Bool.and_eq_true, beq_iff_eq] at this
    exact this.2)
  rw [List.length_map, hl] at this
  omega
end Go.Proofs.Ytnlhhbnoccobmaa.Web
