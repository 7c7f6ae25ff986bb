/- Plain laws: both places of a number that stands twice in a list, and how many places of it lie in an arc. -/
import Derived.Test.YtnlhhbnoccobmaaFgA
import Derived.Test.YtnlhhbnoccobmaaPureA
namespace Go.Proofs.Ytnlhhbnoccobmaa.Pure
open Go.RowKit Go.Proofs.Ytnlhhbnoccobmaa.F Go.Proofs.YtnlhhbnoccobmaaW.PrintWords Go.Proofs.YtnlhhbnoccobmaaW.PrintLast

/-- The first place, and the second one. -/
def pA (w : List Int) (x : Int) : Nat := w.idxOf x
def pB (w : List Int) (x : Int) : Nat := pA w x + 1 + (w.drop (pA w x + 1)).idxOf x
theorem split1 {x : Int} {w : List Int} (h : x ∈ w) : ∃ u v, w = u ++ x :: v ∧ x ∉ u := List.eq_append_cons_of_mem h
theorem split2 {x : Int} {w : List Int} (h : w.count x = 2) : ∃ u v t, w = u ++ x :: (v ++ x :: t) ∧ x ∉ u ∧ x ∉ v ∧ x ∉ t := by
  have h1 : x ∈ w := List.count_pos_iff.1 (by omega)
  obtain ⟨u, z, rfl, hu⟩ := split1 h1
  rw [List.count_append, List.count_eq_zero.2 hu, List.count_cons_self] at h
  have h2 : x ∈ z := List.count_pos_iff.1 (by omega)
  obtain ⟨v, t, rfl, hv⟩ := split1 h2
  rw [List.count_append, List.count_eq_zero.2 hv, List.count_cons_self] at h
  exact ⟨u, v, t, rfl, hu, hv, List.count_eq_zero.1 (by omega)⟩
theorem idxOf_mid {x : Int} {u v : List Int} (hu : x ∉ u) : (u ++ x :: v).idxOf x = u.length := by
  rw [List.idxOf_append, if_neg hu, List.idxOf_cons_self]; omega
theorem pA_of {x : Int} {u v t : List Int} (hu : x ∉ u) : pA (u ++ x :: (v ++ x :: t)) x = u.length := idxOf_mid hu
theorem drop_mid {x : Int} {u v : List Int} : (u ++ x :: v).drop (u.length + 1) = v := by
  rw [List.drop_append, List.drop_of_length_le (by omega)]
  rw [show u.length + 1 - u.length = 1 from by omega]; rfl
theorem pB_of {x : Int} {u v t : List Int} (hu : x ∉ u) (hv : x ∉ v) : pB (u ++ x :: (v ++ x :: t)) x = u.length + 1 + v.length := by
  unfold pB
  rw [pA_of hu, drop_mid, idxOf_mid hv]
theorem places_run (l : List Int) (x : Int) (hb : l.length < 4611686018427387904) : ∀ d n a b r, n + d = l.length → x ∉ (l.drop n).take d → Ev (fun k => spec_l01Places.l0 k l x a b (l.length : Int)) r → Ev (fun k => spec_l01Places.l0 k l x a b (n : Int)) r := by
  intro d
  induction d with
  | zero => intro n a b r hn _ h; rw [show n = l.length from by omega]; exact h
  | succ d ih =>
    intro n a b r hn hx h
    rw [drop_cons (by omega), List.take_succ_cons] at hx
    refine Ev.step (fun k => ?_) (ih (n + 1) a b r (by omega) (fun hm => hx (List.mem_cons_of_mem _ hm)) h)
    simp only [spec_l01Places.l0]
    rw [if_pos (by omega), if_pos (by omega), rdN, if_neg (fun e => hx (by rw [e]; exact List.mem_cons_self)), wS (by omega)]
/-- Going over what is not x. -/
theorem places_skip (l : List Int) (x : Int) (hb : l.length < 4611686018427387904) (a b : Int) (r : Int × Int) : ∀ d n, n + d ≤ l.length → x ∉ (l.drop n).take d → Ev (fun k => spec_l01Places.l0 k l x a b ((n + d : Nat) : Int)) r → Ev (fun k => spec_l01Places.l0 k l x a b (n : Int)) r := by
  intro d
  induction d with
  | zero => intro n _ _ h; exact h
  | succ d ih =>
    intro n hn hx h
    rw [drop_cons (by omega), List.take_succ_cons] at hx
    refine Ev.step (fun k => ?_) (ih (n + 1) (by omega) (fun hm => hx (List.mem_cons_of_mem _ hm)) (by rw [show n + 1 + d = n + (d + 1) from by omega]; exact h))
    simp only [spec_l01Places.l0]
    rw [if_pos (by omega), if_pos (by omega), rdN, if_neg (fun e => hx (by rw [e]; exact List.mem_cons_self)), wS (by omega)]
theorem getD_mid {x : Int} {u v : List Int} : (u ++ x :: v).getD u.length 0 = x := by
  rw [List.getD_eq_getElem?_getD, List.getElem?_append_right (Nat.le_refl _)]; simp
theorem places_ev (w : List Int) (x : Int) (hb : w.length < 4611686018427387904) (h : w.count x = 2) : Ev (fun k => spec_l01Places.f k w x) ((pA w x : Int), (pB w x : Int)) := by
  obtain ⟨u, v, t, rfl, hu, hv, ht⟩ := split2 h
  rw [pA_of hu, pB_of hu hv]
  have hlen : (u ++ x :: (v ++ x :: t)).length = u.length + 1 + v.length + 1 + t.length := by simp; omega
  have hd1 : (u ++ x :: (v ++ x :: t)).drop (u.length + 1) = v ++ x :: t := drop_mid
  have hd2 : (u ++ x :: (v ++ x :: t)).drop (u.length + 1 + v.length + 1) = t := by
    rw [show u.length + 1 + v.length + 1 = (u.length + 1) + (v.length + 1) from by omega, ← List.drop_drop, hd1, drop_mid]
  have hg2 : (u ++ x :: (v ++ x :: t)).getD (u.length + 1 + v.length) 0 = x := by
    rw [List.getD_eq_getElem?_getD, ← List.getElem?_drop, hd1, List.getElem?_append_right (Nat.le_refl _)]; simp
  unfold spec_l01Places.f
  refine places_skip _ x hb (-1) (-1) _ u.length 0 (by omega) (by simpa using hu) ?_
  rw [Nat.zero_add]
  refine Ev.step (f := fun k => spec_l01Places.l0 k (u ++ x :: (v ++ x :: t)) x (u.length : Int) (u.length : Int) ((u.length + 1 : Nat) : Int)) (fun k => ?_) ?_
  · simp only [spec_l01Places.l0]
    rw [if_pos (by omega), if_pos (by omega), rdN, if_pos getD_mid, if_pos (by omega), wS (by omega)]
  refine places_skip _ x hb _ _ _ v.length _ (by omega) (by rw [hd1]; simpa using hv) ?_
  refine Ev.step (f := fun k => spec_l01Places.l0 k (u ++ x :: (v ++ x :: t)) x (u.length : Int) ((u.length + 1 + v.length : Nat) : Int) ((u.length + 1 + v.length + 1 : Nat) : Int)) (fun k => ?_) ?_
  · simp only [spec_l01Places.l0]
    rw [if_pos (by omega), if_pos (by omega), rdN, if_pos hg2, if_neg (by omega), wS (by omega)]
  refine places_skip _ x hb _ _ _ t.length _ (by omega) (by rw [hd2]; simpa using ht) ?_
  refine Ev.step (f := fun _ => some _) (fun k => ?_) (Ev.now _)
  simp only [spec_l01Places.l0]
  rw [if_neg (by omega)]

/-! ### how many places of x lie ahead of q -/
theorem count_take {x : Int} {w : List Int} (h : w.count x = 2) (q : Nat) (hq : q ≤ w.length) : (w.take q).count x = (if pA w x < q then 1 else 0) + (if pB w x < q then 1 else 0) := by
  obtain ⟨u, v, t, rfl, hu, hv, ht⟩ := split2 h
  rw [pA_of hu, pB_of hu hv]
  have cu : ∀ m, (u.take m).count x = 0 := fun m => List.count_eq_zero.2 (fun hm => hu (List.mem_of_mem_take hm))
  have cv : ∀ m, (v.take m).count x = 0 := fun m => List.count_eq_zero.2 (fun hm => hv (List.mem_of_mem_take hm))
  have ct : ∀ m, (t.take m).count x = 0 := fun m => List.count_eq_zero.2 (fun hm => ht (List.mem_of_mem_take hm))
  rw [List.take_append, List.count_append, cu, Nat.zero_add]
  by_cases h1 : u.length < q
  · rw [if_pos h1]
    obtain ⟨m, hm⟩ : ∃ m, q - u.length = m + 1 := ⟨q - u.length - 1, by omega⟩
    rw [hm, List.take_succ_cons, List.count_cons_self, List.take_append, List.count_append, cv, Nat.zero_add]
    by_cases h2 : u.length + 1 + v.length < q
    · rw [if_pos h2]
      obtain ⟨m2, hm2⟩ : ∃ m2, m - v.length = m2 + 1 := ⟨m - v.length - 1, by omega⟩
      rw [hm2, List.take_succ_cons, List.count_cons_self, ct]
    · rw [if_neg h2, show m - v.length = 0 from by omega]; simp
  · rw [if_neg h1, if_neg (by omega), show q - u.length = 0 from by omega]; simp
theorem places_lt {x : Int} {w : List Int} (h : w.count x = 2) : pA w x < pB w x ∧ pB w x < w.length := by
  obtain ⟨u, v, t, rfl, hu, hv, ht⟩ := split2 h
  rw [pA_of hu, pB_of hu hv]
  simp; omega
theorem getD_places {x : Int} {w : List Int} (h : w.count x = 2) (j : Nat) (hj : j < w.length) : w.getD j 0 = x ↔ j = pA w x ∨ j = pB w x := by
  have h1 := count_take h j (by omega)
  have h2 := count_take h (j + 1) (by omega)
  rw [take_snoc hj, List.count_append] at h2
  have hp := places_lt h
  by_cases e : w.getD j 0 = x
  · rw [e] at h2
    simp only [List.count_singleton_self] at h2
    refine ⟨fun _ => ?_, fun _ => e⟩
    by_cases a : j = pA w x
    · exact .inl a
    · by_cases b : j = pB w x
      · exact .inr b
      · exfalso
        have : (pA w x < j) ↔ (pA w x < j + 1) := by omega
        have : (pB w x < j) ↔ (pB w x < j + 1) := by omega
        simp only [*] at h1 h2
        omega
  · have hz : [w.getD j 0].count x = 0 := List.count_eq_zero.2 (by simpa using fun h => e h.symm)
    rw [hz, h1] at h2
    refine ⟨fun h => absurd h e, fun h => ?_⟩
    exfalso
    rcases h with rfl | rfl
    · rw [if_neg (by omega), if_neg (by omega), if_pos (by omega), if_neg (by omega)] at h2; omega
    · rw [if_pos (by omega), if_neg (by omega), if_pos (by omega), if_pos (by omega)] at h2; omega
end Go.Proofs.Ytnlhhbnoccobmaa.Pure
