/- Plain laws: marks, the first place of a number, both places on the program's side. -/
import Derived.Test.YtnlhhbnoccobmaaFgA
import Derived.Test.YtnlhhbnoccobmaaFx114
import Derived.Test.YtnlhhbnoccobmaaPureC
namespace Go.Proofs.Ytnlhhbnoccobmaa.Pure
open Go.RowKit Go.Proofs.Ytnlhhbnoccobmaa.F Go.Proofs.YtnlhhbnoccobmaaW.PrintWords Go.Proofs.YtnlhhbnoccobmaaW.PrintLast

theorem Ev_succ {α : Type} {g : Nat → Option α} {r : α} (h : Ev (fun k => g (k + 1)) r) : Ev g r := Ev.step (fun _ => rfl) h

/-! ### marks -/
def marks (s n : Nat) : List Int := (List.range' s n).map fun i : Nat => (i : Int)
theorem marks_len (s n : Nat) : (marks s n).length = n := by simp [marks]
theorem marks_snoc (s n : Nat) : marks s (n + 1) = marks s n ++ [((s + n : Nat) : Int)] := by
  unfold marks
  rw [List.range'_concat, List.map_append]; simp
theorem mark_l0 (s : Nat) (hs : s ≤ 1152921504606846976) : ∀ (t : List Int) (n : Nat), n + t.length ≤ 1152921504606846976 → Ev (fun k => laws_markInt64S.l0 k (marks s n ++ t) ((s + n : Nat) : Int) (n : Int)) (((s + (n + t.length) : Nat) : Int), marks s (n + t.length)) := by
  intro t
  induction t with
  | nil =>
    intro n hn
    refine Ev.step (f := fun _ => some _) (fun k => ?_) (Ev.now _)
    have hl := marks_len s n
    simp only [laws_markInt64S.l0]
    rw [if_neg (by rw [List.append_nil, hl]; omega)]; simp
  | cons x t ih =>
    intro n hn
    have hl := marks_len s n
    rw [List.length_cons] at hn ⊢
    have h := ih (n + 1) (by omega)
    rw [show n + (t.length + 1) = n + 1 + t.length from by omega]
    refine Ev.step (fun k => ?_) h
    simp only [laws_markInt64S.l0]
    rw [if_pos (by simp [hl]; omega), if_pos (by omega), Int.toNat_natCast, wS (by omega), wS (by omega)]
    rw [List.set_append_right _ _ (by omega), hl, Nat.sub_self, List.set_cons_zero, marks_snoc, List.append_assoc, List.singleton_append]; rfl
theorem mark_ev (v : List Int) (hv : v.length ≤ 1152921504606846976) : Ev (fun k => laws_markInt64S.f k v 1) (((1 + v.length : Nat) : Int), marks 1 v.length) := by
  have h := mark_l0 1 (by omega) v 0 (by omega)
  rw [Nat.zero_add] at h
  exact h
theorem held_l0 (s N : Nat) (hb : s + N ≤ 2305843009213693952) : ∀ d n, n + d = N → Ev (fun k => laws_heldInt64S.l0 k (marks s N) ((s + n : Nat) : Int) (n : Int)) ((s + N : Nat) : Int) := by
  intro d
  induction d with
  | zero =>
    intro n hn
    refine Ev.step (f := fun _ => some _) (fun k => ?_) (Ev.now _)
    have hl := marks_len s N
    simp only [laws_heldInt64S.l0]
    rw [if_neg (by rw [hl]; omega)]
    rw [show n = N from by omega]
  | succ d ih =>
    intro n hn
    have hl := marks_len s N
    have hg : (marks s N).getD n 0 = ((s + n : Nat) : Int) := by
      rw [List.getD_eq_getElem?_getD, List.getElem?_eq_getElem (by omega)]
      simp [marks]
    refine Ev.step (fun k => ?_) (ih (n + 1) (by omega))
    simp only [laws_heldInt64S.l0]
    rw [if_pos (by rw [hl]; omega), if_pos (by omega), rdN, if_pos hg, wS (by omega), wS (by omega)]; rfl
theorem held_ev (N : Nat) (hN : N ≤ 1152921504606846976) : Ev (fun k => laws_heldInt64S.f k (marks 1 N) 1) ((1 + N : Nat) : Int) :=
  held_l0 1 N (by omega) N 0 (by omega)

theorem own_f (l : List Int) (hb : l.length < 17592186044416) : spec_l01Own.f l = some l := by
  unfold spec_l01Own.f
  rw [Option.bind_some, if_pos (by simpa using hb)]; rfl

/-! ### places on the program's side -/
theorem index_l0 (l : List Int) (x : Int) (hb : l.length < 4611686018427387904) : ∀ d n, n + d = l.length → x ∈ l.drop n → Ev (fun k => slices_Index_int64_int64.l0 k l x (l.length : Int) (n : Int)) ((n + (l.drop n).idxOf x : Nat) : Int) := by
  intro d
  induction d with
  | zero => intro n hn hx; rw [List.drop_of_length_le (by omega)] at hx; exact absurd hx (by simp)
  | succ d ih =>
    intro n hn hx
    rw [drop_cons (by omega)] at hx ⊢
    by_cases e : x = l.getD n 0
    · refine Ev.step (f := fun _ => some (n : Int)) (fun k => ?_) ?_
      · simp only [slices_Index_int64_int64.l0]; rw [if_pos (by omega), if_pos (by omega), if_pos (by omega), rdN, if_pos e]
      · rw [← e, List.idxOf_cons_self]; exact Ev.now _
    · have hx' : x ∈ l.drop (n + 1) := (List.mem_cons.1 hx).resolve_left e
      rw [List.idxOf_cons, show (l.getD n 0 == x) = false from beq_eq_false_iff_ne.2 (Ne.symm e), cond_false, show n + ((l.drop (n + 1)).idxOf x + 1) = n + 1 + (l.drop (n + 1)).idxOf x from by omega]
      refine Ev.step (fun k => ?_) (ih (n + 1) (by omega) hx')
      simp only [slices_Index_int64_int64.l0]; rw [if_pos (by omega), if_pos (by omega), if_pos (by omega), rdN, if_neg e, wS (by omega)]
theorem index_ev (l : List Int) (x : Int) (hb : l.length < 4611686018427387904) (hx : x ∈ l) : Ev (fun k => slices_Index_int64_int64.f k l x) (l.idxOf x : Int) := by
  have h := index_l0 l x hb l.length 0 (by omega) hx
  rw [Nat.zero_add] at h
  exact h
theorem iplaces_ev (w : List Int) (x : Int) (hb : w.length < 4611686018427387904) (h : w.count x = 2) : Ev (fun k => impl_places.f k w x) ((pA w x : Int), (pB w x : Int)) := by
  have hm : x ∈ w := List.count_pos_iff.1 (by omega)
  have hp := places_lt h
  have hm2 : x ∈ w.drop (pA w x + 1) := by
    obtain ⟨u, v, t, rfl, hu, hv, ht⟩ := split2 h
    rw [pA_of hu, drop_mid]; simp
  unfold impl_places.f
  have hi : Ev (fun k => slices_Index_int64_int64.f k w x) (pA w x : Int) := index_ev w x hb hm
  refine Ev.bind hi ?_
  show Ev (fun k => if 0 ≤ wrap64 ((pA w x : Int) + 1) then _ else none) _
  have e := wS (n := pA w x) (by omega)
  refine Ev.congr (f := fun k => (slices_Index_int64_int64.f k (w.drop (pA w x + 1)) x).bind fun t295 => some ((pA w x : Int), wrap64 (((pA w x + 1 : Nat) : Int) + t295))) (fun k => ?_) ?_
  · rw [e, if_pos (by omega), if_pos (by omega), Int.toNat_natCast]
  · refine Ev.bind (index_ev _ x (by rw [List.length_drop]; omega) hm2) ?_
    have e2 : wrap64 (((pA w x + 1 : Nat) : Int) + ((w.drop (pA w x + 1)).idxOf x : Int)) = (pB w x : Int) := by
      have : pB w x = pA w x + 1 + (w.drop (pA w x + 1)).idxOf x := rfl
      unfold wrap64; omega
    rw [← e2]; exact Ev.now _

/-! ### chords -/
theorem chords_f (w : List Int) (h : w.length ≤ 12) : impl_chords.f w = some ((w.length / 2 : Nat) : Int) := by
  unfold impl_chords.f
  rw [show wrap64 ((w.length : Int) / 2) = ((w.length / 2 : Nat) : Int) from by unfold wrap64; omega]
theorem code10_l0 (w ls : List Int) (h : w.length ≤ 12) (hb : ls.length < 4611686018427387904) : ∀ d n, n + d = ls.length → Ev (fun k => spec_l10Code.l0 k w ls (n : Int)) (if ∀ i ∈ ls.drop n, 0 ≤ i ∧ i < ((w.length / 2 : Nat) : Int) then 0 else 2) := by
  intro d
  induction d with
  | zero =>
    intro n hn
    rw [List.drop_of_length_le (by omega), if_pos (by simp)]
    refine Ev.step (f := fun _ => some _) (fun k => ?_) (Ev.now _)
    simp only [spec_l10Code.l0]; rw [if_neg (by omega)]
  | succ d ih =>
    intro n hn
    rw [drop_cons (by omega)]
    have hh := ih (n + 1) (by omega)
    refine Ev.step (f := fun k => if 0 ≤ ls.getD n 0 ∧ ls.getD n 0 < ((w.length / 2 : Nat) : Int) then spec_l10Code.l0 k w ls ((n + 1 : Nat) : Int) else some 2) (fun k => ?_) ?_
    · simp only [spec_l10Code.l0]
      rw [if_pos (by omega), if_pos (by omega), rdN, spec_in_f, Option.bind_some, wS (by omega), show wrap64 (wrap64 ((w.length : Int) / 2) - 1) = ((w.length / 2 : Nat) : Int) - 1 from by unfold wrap64; omega]
      by_cases g : 0 ≤ ls.getD n 0 ∧ ls.getD n 0 < ((w.length / 2 : Nat) : Int)
      · rw [if_pos g, if_pos (by rw [decide_eq_true_eq]; omega)]
      · rw [if_neg g, if_neg (by rw [decide_eq_true_eq]; omega)]
    by_cases g : 0 ≤ ls.getD n 0 ∧ ls.getD n 0 < ((w.length / 2 : Nat) : Int)
    · refine Ev.congr (fun k => if_pos g) ?_
      have e : (∀ i ∈ ls.getD n 0 :: ls.drop (n + 1), 0 ≤ i ∧ i < ((w.length / 2 : Nat) : Int)) ↔ ∀ i ∈ ls.drop (n + 1), 0 ≤ i ∧ i < ((w.length / 2 : Nat) : Int) := by
        rw [List.forall_mem_cons]; exact ⟨fun h => h.2, fun h => ⟨g, h⟩⟩
      simp only [e]; exact hh
    · refine Ev.congr (fun k => if_neg g) ?_
      rw [if_neg (fun h => g (h _ List.mem_cons_self))]; exact Ev.now _
theorem code10_ev (w ls : List Int) (hb : ls.length < 4611686018427387904) : Ev (fun k => spec_l10Code.f k w ls) (if isW w = true then (if ∀ i ∈ ls, 0 ≤ i ∧ i < ((w.length / 2 : Nat) : Int) then 0 else 2) else 1) := by
  unfold spec_l10Code.f
  refine Ev.bind (is_ev w) ?_
  by_cases h : isW w = true
  · rw [if_pos h]
    exact Ev.congr (fun k => if_pos h) (code10_l0 w ls ((isW_iff w).1 h).le hb ls.length 0 (by omega))
  · rw [if_neg h]
    exact Ev.congr (fun k => if_neg h) (Ev.now _)
end Go.Proofs.Ytnlhhbnoccobmaa.Pure
