/- Plain laws: rows of rows marked, held, and compared. -/
import Derived.Test.YtnlhhbnoccobmaaFgS
import Derived.Test.YtnlhhbnoccobmaaFx112
import Derived.Test.YtnlhhbnoccobmaaFx113
import Derived.Test.YtnlhhbnoccobmaaPureD
namespace Go.Proofs.Ytnlhhbnoccobmaa.Pure
open Go.RowKit Go.Proofs.Ytnlhhbnoccobmaa.F Go.Proofs.YtnlhhbnoccobmaaW.PrintWords Go.Proofs.YtnlhhbnoccobmaaW.PrintLast
set_option linter.unusedVariables false
set_option linter.unusedSimpArgs false

def total : List (List Int) → Nat
  | [] => 0
  | r :: v => r.length + total v
/-- The marks in rows of these lengths, from s on. -/
def markSS : Nat → List (List Int) → List (List Int)
  | _, [] => []
  | s, r :: v => marks s r.length :: markSS (s + r.length) v
theorem markSS_len : ∀ (v : List (List Int)) (s : Nat), (markSS s v).length = v.length
  | [], _ => rfl
  | r :: v, s => by rw [markSS, List.length_cons, List.length_cons, markSS_len v]
theorem mark_s_ev (s : Nat) (hs : s ≤ 1152921504606846976) (v : List Int) (hv : v.length ≤ 1152921504606846976) : Ev (fun k => laws_markInt64S.f k v (s : Int)) (((s + v.length : Nat) : Int), marks s v.length) := by
  have h := mark_l0 s hs v 0 (by omega)
  rw [Nat.zero_add] at h
  exact h
theorem held_s_ev (s N : Nat) (hb : s + N ≤ 2305843009213693952) : Ev (fun k => laws_heldInt64S.f k (marks s N) (s : Int)) ((s + N : Nat) : Int) := held_l0 s N hb N 0 (by omega)
theorem getD_midS {α : Type} (a : List α) (x d : α) (b : List α) : (a ++ x :: b).getD a.length d = x := by
  rw [List.getD_eq_getElem?_getD, List.getElem?_append_right (Nat.le_refl _)]; simp
theorem set_midS {α : Type} (a : List α) (x y : α) (b : List α) : (a ++ x :: b).set a.length y = a ++ y :: b := by
  rw [List.set_append_right _ _ (Nat.le_refl _), Nat.sub_self, List.set_cons_zero]
theorem markSS_l0 : ∀ (t : List (List Int)) (pre : List (List Int)) (s : Nat), s + t.length * 1048576 ≤ 1152921504606846976 → pre.length + t.length ≤ 1000000000 → (∀ r ∈ t, r.length ≤ 1048576) → Ev (fun k => laws_markInt64SS.l0 k (pre ++ t) (s : Int) (pre.length : Int)) (((s + total t : Nat) : Int), pre ++ markSS s t)
  | [], pre, s, _, _, _ => by
    refine Ev_succ ?_
    simp only [laws_markInt64SS.l0]
    exact Ev.congr (fun k => if_neg (by rw [List.append_nil]; omega)) (Ev.now _)
  | r :: t, pre, s, hs, hp, hr => by
    rw [List.length_cons] at hs hp
    have hr1 := hr r List.mem_cons_self
    refine Ev_succ ?_
    simp only [laws_markInt64SS.l0]
    refine Ev.congr (fun k => if_pos (by rw [List.length_append, List.length_cons]; omega)) ?_
    rw [Int.toNat_natCast, getD_midS]
    refine Ev.bind (mark_s_ev s (by omega) r (by omega)) ?_
    rw [set_midS, wS (by omega)]
    have ih := markSS_l0 t (pre ++ [marks s r.length]) (s + r.length) (by omega) (by rw [List.length_append, List.length_singleton]; omega) (fun x hx => hr x (List.mem_cons_of_mem _ hx))
    rw [List.length_append, List.length_singleton, List.append_assoc, List.singleton_append, List.append_assoc, List.singleton_append] at ih
    rw [total, markSS, show s + (r.length + total t) = s + r.length + total t from by omega]
    exact ih
theorem markSS_ev (v : List (List Int)) (hv : v.length ≤ 1000000) (hr : ∀ r ∈ v, r.length ≤ 1000) : Ev (fun k => laws_markInt64SS.f k v 1) (((1 + total v : Nat) : Int), markSS 1 v) := markSS_l0 v [] 1 (by omega) (by simp; omega) (fun r h => Nat.le_trans (hr r h) (by decide))
theorem heldSS_l0 : ∀ (t : List (List Int)) (pre : List (List Int)) (s : Nat), s + t.length * 1048576 ≤ 1152921504606846976 → pre.length + t.length ≤ 1000000000 → (∀ r ∈ t, r.length ≤ 1048576) → Ev (fun k => laws_heldInt64SS.l0 k (pre ++ markSS s t) (s : Int) (pre.length : Int)) ((s + total t : Nat) : Int)
  | [], pre, s, _, _, _ => by
    refine Ev_succ ?_
    simp only [laws_heldInt64SS.l0]
    exact Ev.congr (fun k => if_neg (by rw [markSS, List.append_nil]; omega)) (Ev.now _)
  | r :: t, pre, s, hs, hp, hr => by
    rw [List.length_cons] at hs hp
    have hr1 := hr r List.mem_cons_self
    refine Ev_succ ?_
    simp only [laws_heldInt64SS.l0]
    rw [markSS]
    refine Ev.congr (fun k => if_pos (by rw [List.length_append, List.length_cons]; omega)) (Ev.congr (fun k => if_pos (by omega)) ?_)
    rw [show rd_L1 (pre ++ marks s r.length :: markSS (s + r.length) t) (pre.length : Int) = marks s r.length from by unfold rd_L1; rw [Int.toNat_natCast]; exact getD_midS _ _ _ _]
    refine Ev.bind (held_s_ev s r.length (by omega)) ?_
    refine Ev.congr (fun k => if_neg (by omega)) ?_
    rw [wS (by omega)]
    have ih := heldSS_l0 t (pre ++ [marks s r.length]) (s + r.length) (by omega) (by rw [List.length_append, List.length_singleton]; omega) (fun x hx => hr x (List.mem_cons_of_mem _ hx))
    rw [List.length_append, List.length_singleton, List.append_assoc, List.singleton_append] at ih
    rw [total, show s + (r.length + total t) = s + r.length + total t from by omega]
    exact ih
theorem heldSS_ev (v : List (List Int)) (hv : v.length ≤ 1000000) (hr : ∀ r ∈ v, r.length ≤ 1000) : Ev (fun k => laws_heldInt64SS.f k (markSS 1 v) 1) ((1 + total v : Nat) : Int) := heldSS_l0 v [] 1 (by omega) (by simp; omega) (fun r h => Nat.le_trans (hr r h) (by decide))
theorem eqRows_ev (a b : List (List Int)) (ha : a.length < 4611686018427387904) (hr : ∀ r ∈ a, r.length < 4611686018427387904) : Ev (fun k => laws_eqInt64SS.f k a b) (decide (a = b)) := by
  unfold laws_eqInt64SS.f
  by_cases hl : a.length = b.length
  · refine Ev.congr (fun k => if_pos (by omega)) ?_
    have key : ∀ d n, n + d = a.length → a.take n = b.take n → Ev (fun k => laws_eqInt64SS.l0 k a b (n : Int)) (decide (a = b)) := by
      intro d
      induction d with
      | zero =>
        intro n hn he
        rw [List.take_of_length_le (by omega), List.take_of_length_le (by omega)] at he
        refine Ev_succ ?_
        simp only [laws_eqInt64SS.l0]
        rw [decide_eq_true he]
        exact Ev.congr (fun k => if_neg (by omega)) (Ev.now _)
      | succ d ih =>
        intro n hn he
        refine Ev_succ ?_
        simp only [laws_eqInt64SS.l0]
        refine Ev.congr (fun k => if_pos (by omega)) (Ev.congr (fun k => if_pos (by omega)) (Ev.congr (fun k => if_pos (by omega)) ?_))
        have ea : rd_L1 a (n : Int) = a[n] := by unfold rd_L1; rw [Int.toNat_natCast, List.getD_eq_getElem?_getD, List.getElem?_eq_getElem (by omega)]; rfl
        have eb : rd_L1 b (n : Int) = b[n] := by unfold rd_L1; rw [Int.toNat_natCast, List.getD_eq_getElem?_getD, List.getElem?_eq_getElem (by omega)]; rfl
        rw [ea, eb]
        refine Ev.bind (eqS_ev a[n] b[n] (hr _ (List.getElem_mem _))) ?_
        by_cases e : a[n] = b[n]
        · rw [decide_eq_true e, wS (by omega)]
          refine Ev.congr (fun k => if_pos rfl) (ih (n + 1) (by omega) ?_)
          rw [List.take_succ_eq_append_getElem (by omega), List.take_succ_eq_append_getElem (by omega), he, e]
        · rw [decide_eq_false e, decide_eq_false (fun h => e (by subst h; rfl))]
          exact Ev.congr (fun k => if_neg (by simp)) (Ev.now _)
    exact key a.length 0 (by omega) rfl
  · rw [decide_eq_false (fun h => hl (by rw [h]))]
    exact Ev.congr (fun k => if_neg (by omega)) (Ev.now _)
end Go.Proofs.Ytnlhhbnoccobmaa.Pure
