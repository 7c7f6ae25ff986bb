/- Plain laws: the rows of a set of pairs, and the labels that the chosen pairs leave; words for the walk of the reference's colouring polynomial. -/
import Derived.Test.YtnlhhbnoccobmaaFx172
import Derived.Test.YtnlhhbnoccobmaaPurePoly
import Derived.Test.YtnlhhbnoccobmaaPureParts
namespace Go.Proofs.Ytnlhhbnoccobmaa.Pure
open Go.RowKit Go.Proofs.Ytnlhhbnoccobmaa.F Go.Proofs.Ytnlhhbnoccobmaa.Mem Go.Proofs.Ytnlhhbnoccobmaa.Chrom Go.Proofs.YtnlhhbnoccobmaaW.PrintWords Go.Proofs.YtnlhhbnoccobmaaW.PrintLast
set_option linter.unusedVariables false
set_option linter.unusedSimpArgs false

def edg (L : List (Nat × Nat)) (a b : Nat) : Bool := L.contains (a, b) || L.contains (b, a)
def matRow (n : Nat) (L : List (Nat × Nat)) (a : Nat) : List Int := (List.range n).map fun b => if edg L a b = true then 1 else 0
def mat (n : Nat) (L : List (Nat × Nat)) : List (List Int) := (List.range n).map fun a => matRow n L a
theorem matRow_len (n : Nat) (L : List (Nat × Nat)) (a : Nat) : (matRow n L a).length = n := by simp [matRow]
theorem mat_len (n : Nat) (L : List (Nat × Nat)) : (mat n L).length = n := by simp [mat]
theorem mat_row {n : Nat} (L : List (Nat × Nat)) {a : Nat} (h : a < n) : (mat n L).getD a [] = matRow n L a := by
  unfold mat; rw [List.getD_eq_getElem?_getD, List.getElem?_map, List.getElem?_range h]; rfl
theorem matRow_at {n : Nat} (L : List (Nat × Nat)) (a : Nat) {b : Nat} (h : b < n) : (matRow n L a).getD b 0 = if edg L a b = true then 1 else 0 := by
  unfold matRow; rw [List.getD_eq_getElem?_getD, List.getElem?_map, List.getElem?_range h]; rfl
theorem matRow_nil (n a : Nat) : matRow n [] a = List.replicate n 0 := by
  unfold matRow
  rw [List.map_congr_left (g := fun _ => (0 : Int)) (fun b _ => by simp [edg]), List.map_const']; simp
theorem edg_snoc (L : List (Nat × Nat)) (i k a b : Nat) : edg (L ++ [(i, k)]) a b = (edg L a b || (a == i && b == k) || (b == i && a == k)) := by
  unfold edg
  rw [Bool.eq_iff_iff]
  simp only [Bool.or_eq_true, List.contains_iff_mem, List.mem_append, List.mem_singleton, Prod.mk.injEq, Bool.and_eq_true, beq_iff_eq]
  constructor
  · rintro ((h | h) | (h | h))
    · exact .inl (.inl (.inl h))
    · exact .inl (.inr h)
    · exact .inl (.inl (.inr h))
    · exact .inr h
  · rintro (((h | h) | h) | h)
    · exact .inl (.inl h)
    · exact .inr (.inl h)
    · exact .inl (.inr h)
    · exact .inr (.inr h)
theorem matRow_set {n : Nat} (L : List (Nat × Nat)) (a b : Nat) (hb : b < n) (f : Nat → Bool) (hf : ∀ c, c < n → f c = (edg L a c || c == b)) : (matRow n L a).set b 1 = (List.range n).map fun c => if f c = true then 1 else 0 := by
  apply List.ext_getElem
  · simp [matRow]
  · intro j h1 h2
    have hj : j < n := by simpa using h2
    simp only [matRow, List.getElem_set, List.getElem_map, List.getElem_range]
    rw [hf j hj]
    by_cases e : b = j
    · subst e; simp
    · rw [if_neg e, show (j == b) = false from by simp; omega, Bool.or_false]
theorem matRow_i {n : Nat} (L : List (Nat × Nat)) {i k : Nat} (hk : k < i) (hi : i < n) : matRow n (L ++ [(i, k)]) i = (matRow n L i).set k 1 := by
  rw [matRow_set L i k (by omega) (fun c => edg (L ++ [(i, k)]) i c) (fun c _ => by
    rw [edg_snoc, show (i == k) = false from by simp; omega]; simp)]
  rfl
theorem matRow_k {n : Nat} (L : List (Nat × Nat)) {i k : Nat} (hk : k < i) (hi : i < n) : matRow n (L ++ [(i, k)]) k = (matRow n L k).set i 1 := by
  rw [matRow_set L k i (by omega) (fun c => edg (L ++ [(i, k)]) k c) (fun c _ => by
    rw [edg_snoc, show (k == i) = false from by simp; omega]; simp)]
  rfl
theorem matRow_o {n : Nat} (L : List (Nat × Nat)) {i k a : Nat} (h1 : a ≠ i) (h2 : a ≠ k) : matRow n (L ++ [(i, k)]) a = matRow n L a := by
  unfold matRow
  refine List.map_congr_left fun b _ => ?_
  rw [edg_snoc, show (a == i) = false from by simp; omega, show (a == k) = false from by simp; omega]; simp
theorem mat_lbl (X : Nat → Nat → Bool) (n s : Nat) (hn : n ≤ 6) : Lbl n (mat n (sel (pairsOf X n) s)) (lblOf (pairsOf X n) s id) := by
  have hmem : ∀ (E : List (Nat × Nat)) (s : Nat) (e : Nat × Nat), e ∈ sel E s → e ∈ E := by
    intro E
    induction E with
    | nil => intro s e h; exact h
    | cons a E ih =>
      intro s e h
      rw [sel] at h
      split at h
      · rcases List.mem_cons.1 h with g | g
        · rw [g]; exact List.mem_cons_self
        · exact List.mem_cons_of_mem _ (ih _ _ g)
      · exact List.mem_cons_of_mem _ (ih _ _ h)
  refine ⟨hn, mat_len _ _, fun a ha => by rw [mat_row _ ha, matRow_len], Lab.lblOf _ _ Lab.id, fun a b ha hb h => ?_, fun S hS u v hu hv h => ?_⟩
  · rw [mat_row _ ha, matRow_at _ _ hb] at h
    have he : edg (sel (pairsOf X n) s) a b = true := by
      by_cases g : edg (sel (pairsOf X n) s) a b = true
      · exact g
      · rw [if_neg g] at h; exact absurd h (by decide)
    rw [lbl_sel]
    unfold edg at he
    rcases Bool.or_eq_true_iff.1 he with g | g
    · exact fold_one _ _ (a, b) (List.contains_iff_mem.1 g)
    · exact (fold_one _ _ (b, a) (List.contains_iff_mem.1 g)).symm
  · rw [lbl_sel] at h
    have key : S u = S v := by
      refine fold_two (S := S) (sel (pairsOf X n) s) id (fun u v (e : u = v) => by rw [e]) (fun e he => ?_) u v h
      have hp := mem_pairs.1 (hmem _ _ _ he)
      have h1 : edg (sel (pairsOf X n) s) e.1 e.2 = true := Bool.or_eq_true_iff.2 (.inl (List.contains_iff_mem.2 he))
      have h2 : edg (sel (pairsOf X n) s) e.2 e.1 = true := Bool.or_eq_true_iff.2 (.inr (List.contains_iff_mem.2 he))
      have g1 := hS e.1 e.2 (by omega) (by omega) (by rw [mat_row _ (by omega), matRow_at _ _ (by omega), if_pos h1])
      have g2 := hS e.2 e.1 (by omega) (by omega) (by rw [mat_row _ (by omega), matRow_at _ _ (by omega), if_pos h2])
      cases h3 : S e.1 <;> cases h4 : S e.2
      · rfl
      · rw [g2 h4] at h3; exact absurd h3 (by simp)
      · rw [g1 h3] at h4; exact absurd h4 (by simp)
      · rfl
    intro g; rw [← key]; exact g
/-! ### the chosen pairs as far as one of them -/
def selTo (E : List (Nat × Nat)) (s j : Nat) : List (Nat × Nat) := ((List.range j).filter fun q => s.testBit q).map fun q => E.getD q (0, 0)
def sgnTo (s : Nat) : Nat → Int
  | 0 => 1
  | j + 1 => if s.testBit j = true then -(sgnTo s j) else sgnTo s j
theorem selTo_succ (E : List (Nat × Nat)) (s j : Nat) : selTo E s (j + 1) = if s.testBit j = true then selTo E s j ++ [E.getD j (0, 0)] else selTo E s j := by
  unfold selTo
  rw [List.range_succ, List.filter_append, List.map_append]
  by_cases h : s.testBit j = true
  · rw [if_pos h, List.filter_cons_of_pos (by simpa using h)]; rfl
  · rw [if_neg h, List.filter_cons_of_neg (by simpa using h)]; simp
theorem selTo_cons (e : Nat × Nat) (E : List (Nat × Nat)) (s : Nat) : ∀ j, selTo (e :: E) s (j + 1) = if s % 2 = 1 then e :: selTo E (s / 2) j else selTo E (s / 2) j
  | 0 => by
    rw [selTo_succ]
    have : s.testBit 0 = true ↔ s % 2 = 1 := by rw [Nat.testBit_zero]; simp
    by_cases h : s % 2 = 1
    · rw [if_pos h, if_pos (this.2 h)]; rfl
    · rw [if_neg h, if_neg (fun g => h (this.1 g))]; rfl
  | j + 1 => by
    rw [selTo_succ, selTo_cons e E s j, Nat.testBit_succ, selTo_succ E (s / 2) j]
    by_cases h : s % 2 = 1 <;> by_cases g : (s / 2).testBit j = true <;> simp [h, g]
theorem sel_to : ∀ (E : List (Nat × Nat)) (s : Nat), selTo E s E.length = sel E s
  | [], _ => rfl
  | e :: E, s => by rw [List.length_cons, selTo_cons, sel_to E (s / 2), sel]
theorem sgnTo_half (s : Nat) : ∀ j, sgnTo s (j + 1) = (if s % 2 = 1 then -1 else 1) * sgnTo (s / 2) j
  | 0 => by
    have h1 : sgnTo s (0 + 1) = if s.testBit 0 = true then -(sgnTo s 0) else sgnTo s 0 := rfl
    rw [h1, Nat.testBit_zero]
    show (if decide (s % 2 = 1) = true then -(1 : Int) else 1) = (if s % 2 = 1 then -1 else 1) * 1
    by_cases h : s % 2 = 1 <;> simp [h]
  | j + 1 => by
    rw [sgnTo, sgnTo_half s j, Nat.testBit_succ, sgnTo]
    by_cases g : (s / 2).testBit j = true
    · rw [if_pos g, if_pos g, Int.mul_neg]
    · rw [if_neg g, if_neg g]
theorem sgn_to : ∀ (E : List (Nat × Nat)) (s : Nat), sgnTo s E.length = sgnOf E s
  | [], _ => rfl
  | e :: E, s => by rw [List.length_cons, sgnTo_half, sgn_to E (s / 2), sgnOf]
theorem sgnTo_is (s : Nat) : ∀ j, sgnTo s j = 1 ∨ sgnTo s j = -1
  | 0 => .inl rfl
  | j + 1 => by
    rw [sgnTo]
    rcases sgnTo_is s j with h | h <;> rw [h] <;> split <;> simp
/-! ### the pairs as far as one of them -/
def prow (e : Nat × Nat) : List Int := [(e.1 : Int), (e.2 : Int)]
def pairsTo (X : Nat → Nat → Bool) (i k : Nat) : List (Nat × Nat) := ((List.range i).flatMap fun i => ((List.range i).filter fun k => X i k).map fun k => (i, k)) ++ ((List.range k).filter fun k => X i k).map fun k => (i, k)
theorem pairsTo_zero (X : Nat → Nat → Bool) (n : Nat) : pairsTo X n 0 = pairsOf X n := by simp [pairsTo, pairsOf]
theorem pairsTo_end (X : Nat → Nat → Bool) (i : Nat) : pairsTo X i i = pairsTo X (i + 1) 0 := by
  unfold pairsTo; rw [List.range_succ, List.flatMap_append]; simp
theorem pairsTo_succ (X : Nat → Nat → Bool) (i k : Nat) : pairsTo X i (k + 1) = if X i k = true then pairsTo X i k ++ [(i, k)] else pairsTo X i k := by
  unfold pairsTo
  rw [List.range_succ, List.filter_append, List.map_append, ← List.append_assoc]
  by_cases h : X i k = true
  · rw [if_pos h, List.filter_cons_of_pos (by simpa using h)]; rfl
  · rw [if_neg h, List.filter_cons_of_neg (by simpa using h)]; simp
theorem pairsTo_len (X : Nat → Nat → Bool) {i k : Nat} (hi : i ≤ 6) (hk : k ≤ 6) : (pairsTo X i k).length ≤ 50 := by
  unfold pairsTo
  have h1 := pairs_len X i hi
  have h2 := List.length_filter_le (fun k => X i k) (List.range k)
  rw [List.length_range] at h2
  rw [List.length_append, List.length_map]
  have : (List.flatMap (fun i => List.map (fun k => (i, k)) (List.filter (fun k => X i k) (List.range i))) (List.range i)).length = (pairsOf X i).length := rfl
  omega
theorem pairs_at (X : Nat → Nat → Bool) (n j : Nat) (h : j < (pairsOf X n).length) : ((pairsOf X n).getD j (0, 0)).1 < n ∧ ((pairsOf X n).getD j (0, 0)).2 < ((pairsOf X n).getD j (0, 0)).1 := by
  have hm : (pairsOf X n).getD j (0, 0) ∈ pairsOf X n := by rw [List.getD_eq_getElem?_getD, List.getElem?_eq_getElem h]; exact List.getElem_mem _
  have := mem_pairs.1 hm
  exact ⟨this.1, this.2.1⟩
end Go.Proofs.Ytnlhhbnoccobmaa.Pure
