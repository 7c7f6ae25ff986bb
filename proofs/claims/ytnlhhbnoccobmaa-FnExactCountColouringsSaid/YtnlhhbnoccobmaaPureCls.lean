/- Plain laws: the numbers of divisions in 64 bits are the numbers themselves, and none of them is large. -/
import Derived.Test.YtnlhhbnoccobmaaPureChrom
import Derived.Test.YtnlhhbnoccobmaaPureA
namespace Go.Proofs.Ytnlhhbnoccobmaa.Chrom
open Go.RowKit Go.Proofs.YtnlhhbnoccobmaaW.PrintWords Go.Proofs.YtnlhhbnoccobmaaW.PrintLast
/-- What the search for divisions leaves in the counts (64-bit). -/
def clsP (X : Nat → Nat → Bool) : Nat → Nat → List (List Nat) → List Int → List Int
  | 0, _, L, out => out.set L.length (wrap64 (out.getD L.length 0 + 1))
  | d + 1, i, L, out => clsP X d (i + 1) (L ++ [[i]]) ((List.range L.length).foldl (fun o t => if indep X (L.getD t []) i = true then clsP X d (i + 1) (into L t i) o else o) out)
def clsTo (X : Nat → Nat → Bool) (d i : Nat) (L : List (List Nat)) (out : List Int) (t : Nat) : List Int := (List.range t).foldl (fun o t => if indep X (L.getD t []) i = true then clsP X d (i + 1) (into L t i) o else o) out
theorem clsTo_succ (X : Nat → Nat → Bool) (d i : Nat) (L : List (List Nat)) (out : List Int) (t : Nat) : clsTo X d i L out (t + 1) = if indep X (L.getD t []) i = true then clsP X d (i + 1) (into L t i) (clsTo X d i L out t) else clsTo X d i L out t := by
  unfold clsTo; rw [List.range_succ, List.foldl_append]; rfl
theorem clsTo_len' (X : Nat → Nat → Bool) (d i : Nat) (L : List (List Nat)) (out : List Int) (h : ∀ L out, (clsP X d (i + 1) L out).length = out.length) : ∀ t, (clsTo X d i L out t).length = out.length
  | 0 => rfl
  | t + 1 => by
    rw [clsTo_succ]
    split
    · rw [h]; exact clsTo_len' X d i L out h t
    · exact clsTo_len' X d i L out h t
theorem clsP_len (X : Nat → Nat → Bool) : ∀ (d i : Nat) (L : List (List Nat)) (out : List Int), (clsP X d i L out).length = out.length
  | 0, _, _, _ => by rw [clsP, List.length_set]
  | d + 1, i, L, out => by rw [clsP, clsP_len X d (i + 1)]; exact clsTo_len' X d i L out (clsP_len X d (i + 1)) _
theorem clsTo_len (X : Nat → Nat → Bool) (d i : Nat) (L : List (List Nat)) (out : List Int) (t : Nat) : (clsTo X d i L out t).length = out.length := clsTo_len' X d i L out (clsP_len X d (i + 1)) t
/-- Counts between 0 and M. -/
def Few (M : Int) (out : List Int) : Prop := ∀ j, 0 ≤ out.getD j 0 ∧ out.getD j 0 ≤ M
theorem Few.le {M N : Int} {out : List Int} (h : Few M out) (hMN : M ≤ N) : Few N out := fun j => ⟨(h j).1, Int.le_trans (h j).2 hMN⟩
theorem few_set {M : Int} {out : List Int} (h : Few M out) (j : Nat) (hM : M < 9223372036854775807) : out.set j (wrap64 (out.getD j 0 + 1)) = out.set j (out.getD j 0 + 1) ∧ Few (M + 1) (out.set j (out.getD j 0 + 1)) := by
  have hj := h j
  refine ⟨by rw [show wrap64 (out.getD j 0 + 1) = out.getD j 0 + 1 from by unfold wrap64; omega], fun s => ?_⟩
  by_cases hs : s < out.length
  · rw [getD_set _ _ _ _ _ hs]
    have := h s
    split <;> omega
  · rw [List.getD_eq_getElem?_getD, List.getElem?_eq_none (by rw [List.length_set]; omega)]
    have := h s
    simp; omega
theorem cls_few (X : Nat → Nat → Bool) : ∀ (d i : Nat) (L : List (List Nat)) (out : List Int) (M : Nat), L.length + d ≤ 6 → M + 7 ^ d ≤ 4611686018427387904 → Few M out → clsP X d i L out = cls X d i L out ∧ Few ((M + 7 ^ d : Nat) : Int) (cls X d i L out)
  | 0, i, L, out, M, _, hM, h => by
    have := few_set h L.length (by omega)
    rw [clsP, cls]
    exact ⟨this.1, this.2.le (by omega)⟩
  | d + 1, i, L, out, M, hL, hM, h => by
    have hp : 7 ^ (d + 1) = 7 ^ d * 7 := Nat.pow_succ ..
    have key : ∀ (l : List Nat) (o : List Int) (N : Nat), Few N o → N + (l.length + 1) * 7 ^ d ≤ 4611686018427387904 →
        l.foldl (fun o t => if indep X (L.getD t []) i = true then clsP X d (i + 1) (into L t i) o else o) o = l.foldl (fun o t => if indep X (L.getD t []) i = true then cls X d (i + 1) (into L t i) o else o) o ∧ Few ((N + l.length * 7 ^ d : Nat) : Int) (l.foldl (fun o t => if indep X (L.getD t []) i = true then cls X d (i + 1) (into L t i) o else o) o) := by
      intro l
      induction l with
      | nil => intro o N ho hN; exact ⟨rfl, ho.le (by omega)⟩
      | cons a l ih =>
        intro o N ho hN
        have e1 : (l.length + 1 + 1) * 7 ^ d = (l.length + 1) * 7 ^ d + 7 ^ d := Nat.succ_mul ..
        have e2 : (l.length + 1) * 7 ^ d = l.length * 7 ^ d + 7 ^ d := Nat.succ_mul ..
        rw [List.length_cons] at hN ⊢
        rw [List.foldl_cons, List.foldl_cons]
        by_cases g : indep X (L.getD a []) i = true
        · rw [if_pos g, if_pos g]
          have h1 := cls_few X d (i + 1) (into L a i) o N (by rw [into_len]; omega) (by omega) ho
          have h2 := ih _ (N + 7 ^ d) h1.2 (by omega)
          rw [h1.1]
          exact ⟨h2.1, h2.2.le (by omega)⟩
        · rw [if_neg g, if_neg g]
          have h2 := ih o N ho (by omega)
          exact ⟨h2.1, h2.2.le (by omega)⟩
    have hm : (L.length + 2) * 7 ^ d ≤ 7 * 7 ^ d := Nat.mul_le_mul_right _ (by omega)
    have e3 : (L.length + 2) * 7 ^ d = (L.length + 1) * 7 ^ d + 7 ^ d := Nat.succ_mul ..
    have e4 : (L.length + 1) * 7 ^ d = L.length * 7 ^ d + 7 ^ d := Nat.succ_mul ..
    have h1 := key (List.range L.length) out M h (by rw [List.length_range]; omega)
    rw [List.length_range] at h1
    have h2 := cls_few X d (i + 1) (L ++ [[i]]) _ (M + L.length * 7 ^ d) (by rw [List.length_append, List.length_singleton]; omega) (by omega) h1.2
    rw [clsP, cls, h1.1]
    exact ⟨h2.1, h2.2.le (by omega)⟩
theorem few_zeros (n : Nat) : Few ((0 : Nat) : Int) (List.replicate n 0) := fun j => by
  rw [List.getD_eq_getElem?_getD, List.getElem?_replicate]
  split <;> simp
/-- The numbers of divisions of n places, as 64 bits have them. -/
theorem clsP_of (X : Nat → Nat → Bool) (n : Nat) (hn : n ≤ 6) : clsP X n 0 [] (List.replicate (n + 1) 0) = clsOf X n ∧ Few 117649 (clsOf X n) := by
  have h7 : 7 ^ n ≤ 117649 := Nat.le_trans (Nat.pow_le_pow_right (n := 7) (by decide) hn) (by decide)
  have := cls_few X n 0 [] (List.replicate (n + 1) 0) 0 (by simpa using hn) (by omega) (few_zeros _)
  exact ⟨this.1, this.2.le (by omega)⟩
/-- The numbers of divisions hang on what crosses alone. -/
theorem indep_congr {X Y : Nat → Nat → Bool} {i : Nat} (s : List Nat) (h : ∀ a, a ∈ s → X i a = Y i a) : indep X s i = indep Y s i := by
  induction s with
  | nil => rfl
  | cons a s ih =>
    have := ih (fun b hb => h b (List.mem_cons_of_mem _ hb))
    unfold indep at this ⊢
    rw [List.all_cons, List.all_cons, this, h a List.mem_cons_self]
theorem cls_congr {X Y : Nat → Nat → Bool} (n : Nat) (h : ∀ i a, i < n → a < n → X i a = Y i a) : ∀ (d i : Nat) (L : List (List Nat)) (out : List Int), i + d ≤ n → (∀ s ∈ L, ∀ a ∈ s, a < i) → cls X d i L out = cls Y d i L out
  | 0, _, _, _, _, _ => rfl
  | d + 1, i, L, out, hi, hL => by
    have hstep : ∀ t, ∀ s ∈ into L t i, ∀ a ∈ s, a < i + 1 := fun t s hs a ha => by
      unfold into at hs
      rcases List.mem_or_eq_of_mem_set hs with g | g
      · have := hL s g a ha; omega
      · rw [g] at ha
        rcases List.mem_append.1 ha with k | k
        · by_cases e : t < L.length
          · rw [List.getD_eq_getElem?_getD, List.getElem?_eq_getElem e] at k
            have := hL _ (List.getElem_mem e) a k; omega
          · rw [List.getD_eq_getElem?_getD, List.getElem?_eq_none (by omega)] at k
            exact absurd k (by simp)
        · rw [List.mem_singleton] at k; omega
    have key : ∀ (l : List Nat) (o : List Int), l.foldl (fun o t => if indep X (L.getD t []) i = true then cls X d (i + 1) (into L t i) o else o) o = l.foldl (fun o t => if indep Y (L.getD t []) i = true then cls Y d (i + 1) (into L t i) o else o) o := by
      intro l
      induction l with
      | nil => intro o; rfl
      | cons a l ih =>
        intro o
        rw [List.foldl_cons, List.foldl_cons, ih]
        congr 1
        have e : indep X (L.getD a []) i = indep Y (L.getD a []) i := indep_congr _ (fun b hb => by
          have hb' : b < i := by
            by_cases e : a < L.length
            · rw [List.getD_eq_getElem?_getD, List.getElem?_eq_getElem e] at hb
              exact hL _ (List.getElem_mem e) b hb
            · rw [List.getD_eq_getElem?_getD, List.getElem?_eq_none (by omega)] at hb
              exact absurd hb (by simp)
          exact h i b (by omega) (by omega))
        rw [e, cls_congr n h d (i + 1) _ _ (by omega) (hstep a)]
    rw [cls, cls, key, cls_congr n h d (i + 1) _ _ (by omega) (fun s hs a ha => by
      rcases List.mem_append.1 hs with g | g
      · have := hL s g a ha; omega
      · rw [List.mem_singleton] at g
        rw [g, List.mem_singleton] at ha; omega)]
theorem clsOf_congr {X Y : Nat → Nat → Bool} (n : Nat) (h : ∀ i a, i < n → a < n → X i a = Y i a) : clsOf X n = clsOf Y n := cls_congr n h n 0 [] _ (by omega) (by simp)
/-- The sets told so far hold chords below i alone. -/
theorem into_small {L : List (List Nat)} {i : Nat} (h : ∀ s ∈ L, s.length ≤ i ∧ ∀ x ∈ s, x < i) (t : Nat) : ∀ s ∈ into L t i, s.length ≤ i + 1 ∧ ∀ x ∈ s, x < i + 1 := by
  intro s hs
  unfold into at hs
  rcases List.mem_or_eq_of_mem_set hs with g | g
  · have := h s g
    exact ⟨by omega, fun x hx => by have := this.2 x hx; omega⟩
  · have e : (L.getD t []).length ≤ i ∧ ∀ x ∈ L.getD t [], x < i := by
      by_cases e : t < L.length
      · rw [List.getD_eq_getElem?_getD, List.getElem?_eq_getElem e]; exact h _ (List.getElem_mem e)
      · rw [List.getD_eq_getElem?_getD, List.getElem?_eq_none (by omega)]; exact ⟨Nat.zero_le _, fun x hx => absurd hx (by simp)⟩
    subst g
    refine ⟨by rw [List.length_append, List.length_singleton]; omega, fun x hx => ?_⟩
    rcases List.mem_append.1 hx with k | k
    · have := e.2 x k; omega
    · rw [List.mem_singleton] at k; omega
theorem new_small {L : List (List Nat)} {i : Nat} (h : ∀ s ∈ L, s.length ≤ i ∧ ∀ x ∈ s, x < i) : ∀ s ∈ L ++ [[i]], s.length ≤ i + 1 ∧ ∀ x ∈ s, x < i + 1 := by
  intro s hs
  rcases List.mem_append.1 hs with g | g
  · have := h s g
    exact ⟨by omega, fun x hx => by have := this.2 x hx; omega⟩
  · rw [List.mem_singleton] at g
    subst g
    exact ⟨by simp, fun x hx => by rw [List.mem_singleton] at hx; omega⟩
end Go.Proofs.Ytnlhhbnoccobmaa.Chrom
