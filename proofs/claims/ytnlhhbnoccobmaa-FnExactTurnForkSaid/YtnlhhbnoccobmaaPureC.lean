/- Plain laws: what a word's numbers are. -/
import Derived.Test.YtnlhhbnoccobmaaPureB
namespace Go.Proofs.Ytnlhhbnoccobmaa.Pure
open Go.RowKit Go.Proofs.Ytnlhhbnoccobmaa.F Go.Proofs.YtnlhhbnoccobmaaW.PrintWords Go.Proofs.YtnlhhbnoccobmaaW.PrintLast

theorem mets_mem (l : List Int) (x : Int) : x ∈ mets l ↔ x ∈ l := by
  refine snocInd (P := fun l => x ∈ mets l ↔ x ∈ l) ?_ ?_ l
  · rw [mets_nil]
  · intro l y h
    rw [mets_snoc]
    split
    · rename_i hy
      have hy' : y ∈ mets l := List.contains_iff_mem.1 hy
      rw [List.mem_append, h, List.mem_singleton]
      refine ⟨.inl, fun g => ?_⟩
      rcases g with g | g
      · exact g
      · subst g; exact h.1 hy'
    · rw [List.mem_append, List.mem_append, h]
theorem nrm_mem (l : List Int) (x : Int) : x ∈ nrm l ↔ ∃ i : Nat, i < (mets l).length ∧ x = (i : Int) := by
  refine snocInd (P := fun l => x ∈ nrm l ↔ ∃ i : Nat, i < (mets l).length ∧ x = (i : Int)) ?_ ?_ l
  · rw [nrm_nil, mets_nil]; simp
  · intro l y h
    rw [nrm_snoc, mets_snoc, List.mem_append, h, List.mem_singleton]
    by_cases hy : (mets l).contains y = true
    · rw [if_pos hy, if_pos hy]
      have hlt : (mets l).idxOf y < (mets l).length := List.idxOf_lt_length_of_mem (List.contains_iff_mem.1 hy)
      refine ⟨fun g => ?_, .inl⟩
      rcases g with g | g
      · exact g
      · exact ⟨_, hlt, g⟩
    · rw [if_neg hy, if_neg hy, List.length_append, List.length_singleton]
      refine ⟨fun g => ?_, fun ⟨i, hi, e⟩ => ?_⟩
      · rcases g with ⟨i, hi, e⟩ | g
        · exact ⟨i, by omega, e⟩
        · exact ⟨_, by omega, g⟩
      · by_cases hc : i < (mets l).length
        · exact .inl ⟨i, hc, e⟩
        · exact .inr (by rw [e]; congr 1; omega)
theorem len_two : ∀ (m l : List Int), m.Nodup → (∀ x ∈ l, x ∈ m) → (∀ x ∈ m, l.count x = 2) → l.length = 2 * m.length
  | [], l, _, h, _ => by
    cases l with
    | nil => rfl
    | cons x r => exact absurd (h x List.mem_cons_self) (by simp)
  | y :: ms, l, hd, h, hc => by
    have hy := hc y List.mem_cons_self
    have hd' := List.nodup_cons.1 hd
    have h1 := len_two ms (l.filter fun z => !(z == y)) hd'.2 (fun x hx => by
        have hx' := List.mem_filter.1 hx
        rcases List.mem_cons.1 (h x hx'.1) with e | e
        · exact absurd hx'.2 (by simp [e])
        · exact e) (fun x hx => by
        have hne : x ≠ y := fun e => hd'.1 (e ▸ hx)
        rw [List.count_filter (by simpa using hne)]
        exact hc x (List.mem_cons_of_mem _ hx))
    have h2 := List.length_eq_countP_add_countP (fun z => z == y) (l := l)
    rw [List.countP_eq_length_filter (p := fun z => decide ¬((z == y) = true))] at h2
    have e : (fun z : Int => decide ¬((z == y) = true)) = fun z => !(z == y) := by
      funext z; cases z == y <;> rfl
    rw [e] at h2
    have h3 : l.countP (fun z => z == y) = 2 := hy
    rw [List.length_cons]
    omega
/-- What is a word. -/
structure Word (w : List Int) : Prop where
  le : w.length ≤ 12
  two : ∀ x ∈ w, w.count x = 2
  nrm : nrm w = w
theorem isW_iff (w : List Int) : isW w = true ↔ Word w := by
  unfold isW tw
  simp only [Bool.and_eq_true, decide_eq_true_eq, List.all_eq_true, beq_iff_eq]
  exact ⟨fun h => ⟨h.1.1, h.1.2, h.2⟩, fun h => ⟨⟨h.le, h.two⟩, h.nrm⟩⟩
theorem Word.len {w : List Int} (h : Word w) : w.length = 2 * (mets w).length :=
  len_two _ _ (mets_nodup w) (fun x hx => (mets_mem w x).2 hx) (fun x hx => h.two x ((mets_mem w x).1 hx))
theorem Word.half {w : List Int} (h : Word w) : w.length / 2 = (mets w).length := by have := h.len; omega
theorem Word.mem {w : List Int} (h : Word w) (x : Int) : x ∈ w ↔ ∃ i : Nat, i < w.length / 2 ∧ x = (i : Int) := by
  have := nrm_mem w x
  rw [h.nrm] at this
  rw [this, h.half]
theorem Word.count {w : List Int} (h : Word w) {i : Nat} (hi : i < w.length / 2) : w.count (i : Int) = 2 := h.two _ ((h.mem _).2 ⟨i, hi, rfl⟩)
end Go.Proofs.Ytnlhhbnoccobmaa.Pure
