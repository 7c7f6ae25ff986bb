/- Plain laws: how many parts a web has: the labels that stand for themselves; the sorted labels are as many, once repetitions are left out. -/
import Derived.Test.YtnlhhbnoccobmaaPureWebC
import Derived.Test.YtnlhhbnoccobmaaPureMem
import Derived.Lib.SlicesCompact
namespace Go.Proofs.Ytnlhhbnoccobmaa.Web
open Go.Proofs.Ytnlhhbnoccobmaa.Mem
set_option linter.unusedVariables false
set_option linter.unusedSimpArgs false

/-- Strictly ascending lists with the same members are one. -/
theorem asc_eq : ∀ (l m : List Int), l.Pairwise (· < ·) → m.Pairwise (· < ·) → (∀ x, x ∈ l ↔ x ∈ m) → l = m
  | [], [], _, _, _ => rfl
  | [], b :: m, _, _, h => absurd ((h b).2 List.mem_cons_self) (by simp)
  | a :: l, [], _, _, h => absurd ((h a).1 List.mem_cons_self) (by simp)
  | a :: l, b :: m, hl, hm, h => by
    rw [List.pairwise_cons] at hl hm
    have e : a = b := by
      rcases List.mem_cons.1 ((h a).1 List.mem_cons_self) with e | e
      · exact e
      · rcases List.mem_cons.1 ((h b).2 List.mem_cons_self) with g | g
        · exact g.symm
        · have := hm.1 a e; have := hl.1 b g; omega
    subst e
    rw [asc_eq l m hl.2 hm.2 (fun x => ⟨fun g => by
      rcases List.mem_cons.1 ((h x).1 (List.mem_cons_of_mem _ g)) with e | e
      · have := hl.1 x g; omega
      · exact e, fun g => by
      rcases List.mem_cons.1 ((h x).2 (List.mem_cons_of_mem _ g)) with e | e
      · have := hm.1 x g; omega
      · exact e⟩)]
theorem compact_inv (d : Array Int) (hs : ∀ i j, i ≤ j → j < d.size → d[i]! ≤ d[j]!) : ∀ m, m ≤ d.size → (Go.Lib.compactUpTo d m).Pairwise (· < ·) ∧ ∀ x, x ∈ Go.Lib.compactUpTo d m ↔ ∃ j, j < m ∧ d[j]! = x
  | 0, _ => ⟨by simp [Go.Lib.compactUpTo], fun x => by simp [Go.Lib.compactUpTo]⟩
  | m + 1, hm => by
    obtain ⟨h1, h2⟩ := compact_inv d hs m (by omega)
    rw [Go.Lib.compactUpTo_succ]
    by_cases hk : m = 0 ∨ d[m]! ≠ d[m - 1]!
    · rw [show Go.Lib.keeps d m = true from by simpa [Go.Lib.keeps] using hk, if_pos rfl]
      refine ⟨?_, fun x => ?_⟩
      · rw [List.pairwise_append]
        refine ⟨h1, List.pairwise_singleton _ _, fun x hx y hy => ?_⟩
        rw [List.mem_singleton] at hy
        obtain ⟨j, hj, e⟩ := (h2 x).1 hx
        have a := hs j (m - 1) (by omega) (by omega)
        have b := hs (m - 1) m (by omega) (by omega)
        have c : d[m]! ≠ d[m - 1]! := hk.resolve_left (by omega)
        omega
      · rw [List.mem_append, List.mem_singleton, h2]
        constructor
        · rintro (⟨j, hj, e⟩ | e)
          · exact ⟨j, by omega, e⟩
          · exact ⟨m, by omega, e.symm⟩
        · rintro ⟨j, hj, e⟩
          by_cases g : j = m
          · subst g; exact .inr e.symm
          · exact .inl ⟨j, by omega, e⟩
    · rw [show Go.Lib.keeps d m = false from by simpa [Go.Lib.keeps] using hk]
      have h0 : m ≠ 0 := fun e => hk (.inl e)
      have he : d[m]! = d[m - 1]! := Classical.byContradiction fun e => hk (.inr e)
      simp only [Bool.false_eq_true, if_false, List.append_nil]
      refine ⟨h1, fun x => ?_⟩
      rw [h2]
      constructor
      · rintro ⟨j, hj, e⟩; exact ⟨j, by omega, e⟩
      · rintro ⟨j, hj, e⟩
        by_cases g : j = m
        · subst g; exact ⟨j - 1, by omega, by rw [← he]; exact e⟩
        · exact ⟨j, by omega, e⟩
theorem compact_sorted (L : List Int) : (Go.Lib.compact (L.mergeSort fun x y => decide (x ≤ y))).Pairwise (· < ·) ∧ ∀ x, x ∈ Go.Lib.compact (L.mergeSort fun x y => decide (x ≤ y)) ↔ x ∈ L := by
  have hp : (L.mergeSort fun x y => decide (x ≤ y)).Pairwise (fun x y => decide (x ≤ y) = true) := List.pairwise_mergeSort (fun a b c h g => by simp only [decide_eq_true_eq] at *; omega) (fun a b => by simp only [Bool.or_eq_true, decide_eq_true_eq]; omega) L
  have hm : ∀ x, x ∈ (L.mergeSort fun x y => decide (x ≤ y)) ↔ x ∈ L := fun x => List.mem_mergeSort
  generalize (L.mergeSort fun x y => decide (x ≤ y)) = S at hp hm
  have hg : ∀ j, j < S.length → S.toArray[j]! = S.getD j 0 := fun j hj => by simp [hj]
  obtain ⟨h1, h2⟩ := compact_inv S.toArray (fun i j hij hj => by
    have hj' : j < S.length := by simpa using hj
    rw [hg i (by omega), hg j hj']
    by_cases e : i = j
    · subst e; exact Int.le_refl _
    · have := List.pairwise_iff_getElem.1 hp i j (by omega) hj' (by omega)
      simp only [decide_eq_true_eq] at this
      simpa [List.getD_eq_getElem?_getD, List.getElem?_eq_getElem, hj', show i < S.length by omega] using this) S.length (by simp)
  refine ⟨h1, fun x => (h2 x).trans ?_⟩
  rw [← hm]
  constructor
  · rintro ⟨j, hj, e⟩
    rw [hg j hj] at e
    rw [← e, List.getD_eq_getElem?_getD, List.getElem?_eq_getElem hj]
    exact List.getElem_mem hj
  · intro h
    obtain ⟨j, hj, e⟩ := List.mem_iff_getElem.1 h
    exact ⟨j, hj, by rw [hg j hj, List.getD_eq_getElem?_getD, List.getElem?_eq_getElem hj]; exact e⟩
theorem cnt_filter (p : Nat → Bool) : ∀ n, ((List.range n).filter p).length = cnt p n
  | 0 => rfl
  | n + 1 => by rw [List.range_succ, List.filter_append, List.length_append, cnt_filter p n]; cases h : p n <;> simp [cnt, h]
theorem roots_len (f : Nat → Nat) (n : Nat) (hf : ∀ v, f (f v) = f v) (hle : ∀ v, f v ≤ v) : (Go.Lib.compact ((ints ((List.range n).map f)).mergeSort fun x y => decide (x ≤ y))).length = cnt (fun v => f v == v) n := by
  obtain ⟨h1, h2⟩ := compact_sorted (ints ((List.range n).map f))
  have e : Go.Lib.compact ((ints ((List.range n).map f)).mergeSort fun x y => decide (x ≤ y)) = ints ((List.range n).filter fun v => f v == v) := by
    refine asc_eq _ _ h1 ?_ (fun x => (h2 x).trans ?_)
    · unfold ints
      rw [List.pairwise_map]
      exact (List.pairwise_lt_range.filter _).imp (fun h => Int.ofNat_lt.2 h)
    · unfold ints
      simp only [List.mem_map, List.mem_filter, List.mem_range, beq_iff_eq]
      constructor
      · rintro ⟨y, ⟨v, hv, rfl⟩, rfl⟩
        exact ⟨f v, ⟨by have := hle v; omega, hf v⟩, rfl⟩
      · rintro ⟨v, ⟨hv, e⟩, rfl⟩
        exact ⟨v, ⟨v, hv, e⟩, rfl⟩
  rw [e, ints_len, cnt_filter]
theorem cnt_congr {p q : Nat → Bool} : ∀ n, (∀ v, v < n → p v = q v) → cnt p n = cnt q n
  | 0, _ => rfl
  | n + 1, h => by simp only [cnt, cnt_congr n (fun v hv => h v (by omega)), h n (by omega)]
def rootsC (legs : List Int) (forks : List (List Int)) : Nat := cnt (fun v => at_ (partsC (inc legs forks) (legs.length + forks.length) (legs.length + forks.length)) v == v) (legs.length + forks.length)
theorem rootsC_eq {legs : List Int} {forks : List (List Int)} (h : Two (inc legs forks) (legs.length + forks.length)) : rootsC legs forks = cnt (fun v => lbl (inc legs forks) v == v) (legs.length + forks.length) := by
  unfold rootsC
  rw [partsC_lbl h]
  exact cnt_congr _ fun v hv => by simp [at_, hv]
theorem rootsC_le (legs : List Int) (forks : List (List Int)) : rootsC legs forks ≤ legs.length + forks.length := cnt_le _ _
theorem rootsC_sort {legs : List Int} {forks : List (List Int)} (h : Two (inc legs forks) (legs.length + forks.length)) : (Go.Lib.compact ((ints ((List.range (legs.length + forks.length)).map (lbl (inc legs forks)))).mergeSort fun x y => decide (x ≤ y))).length = rootsC legs forks := by
  rw [rootsC_eq h, roots_len _ _ (lbl_idem _) (lbl_le _)]
end Go.Proofs.Ytnlhhbnoccobmaa.Web
