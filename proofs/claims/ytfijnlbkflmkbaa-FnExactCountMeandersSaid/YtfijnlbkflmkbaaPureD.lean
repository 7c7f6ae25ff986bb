/- Plain laws: marks, a list backwards, the first place of a number, both places on the program's side. -/
import Derived.Test.YtfijnlbkflmkbaaFgA
import Derived.Test.YtfijnlbkflmkbaaFgC
import Derived.Test.YtfijnlbkflmkbaaPureC
namespace Go.Proofs.Ytfijnlbkflmkbaa.Pure
open Go.RowKit Go.Proofs.Ytfijnlbkflmkbaa.F Go.Proofs.YtfijnlbkflmkbaaW.PrintWords Go.Proofs.YtfijnlbkflmkbaaW.PrintLast

theorem Ev_succ {α : Type} {g : Nat → Option α} {r : α} (h : Ev (fun k => g (k + 1)) r) : Ev g r := Ev.step (fun _ => rfl) h

/-! ### marks -/
def marks (s n : Nat) : List Int := (List.range' s n).map fun i : Nat => (i : Int)
theorem marks_len (s n : Nat) : (marks s n).length = n := by simp [marks]
theorem marks_snoc (s n : Nat) : marks s (n + 1) = marks s n ++ [((s + n : Nat) : Int)] := by
  unfold marks
  rw [List.range'_concat, List.map_append]; simp
theorem mark_l0 (s : Nat) (hs : s ≤ 1152921504606846976) : ∀ (t : List Int) (n : Nat), n + t.length ≤ 1152921504606846976 → Ev (fun k => laws_markInt64S.l0 k (marks s n ++ t) ((s + n : Nat) : Int) (n : Int)) (((s + (n + t.length) : Nat) : Int), marks s (n + t.length)) := by
  intro t
  induction t with
  | nil =>
    intro n hn
    refine Ev.step (f := fun _ => some _) (fun k => ?_) (Ev.now _)
    have hl := marks_len s n
    simp only [laws_markInt64S.l0]
    rw [if_neg (by rw [List.append_nil, hl]; omega)]; simp
  | cons x t ih =>
    intro n hn
    have hl := marks_len s n
    rw [List.length_cons] at hn ⊢
    have h := ih (n + 1) (by omega)
    rw [show n + (t.length + 1) = n + 1 + t.length from by omega]
    refine Ev.step (fun k => ?_) h
    simp only [laws_markInt64S.l0]
    rw [if_pos (by simp [hl]; omega), if_pos (by omega), Int.toNat_natCast, wS (by omega), wS (by omega)]
    rw [List.set_append_right _ _ (by omega), hl, Nat.sub_self, List.set_cons_zero, marks_snoc, List.append_assoc, List.singleton_append]; rfl
theorem mark_ev (v : List Int) (hv : v.length ≤ 1152921504606846976) : Ev (fun k => laws_markInt64S.f k v 1) (((1 + v.length : Nat) : Int), marks 1 v.length) := by
  have h := mark_l0 1 (by omega) v 0 (by omega)
  rw [Nat.zero_add] at h
  exact h
theorem held_l0 (s N : Nat) (hb : s + N ≤ 2305843009213693952) : ∀ d n, n + d = N → Ev (fun k => laws_heldInt64S.l0 k (marks s N) ((s + n : Nat) : Int) (n : Int)) ((s + N : Nat) : Int) := by
  intro d
  induction d with
  | zero =>
    intro n hn
    refine Ev.step (f := fun _ => some _) (fun k => ?_) (Ev.now _)
    have hl := marks_len s N
    simp only [laws_heldInt64S.l0]
    rw [if_neg (by rw [hl]; omega)]
    rw [show n = N from by omega]
  | succ d ih =>
    intro n hn
    have hl := marks_len s N
    have hg : (marks s N).getD n 0 = ((s + n : Nat) : Int) := by
      rw [List.getD_eq_getElem?_getD, List.getElem?_eq_getElem (by omega)]
      simp [marks]
    refine Ev.step (fun k => ?_) (ih (n + 1) (by omega))
    simp only [laws_heldInt64S.l0]
    rw [if_pos (by rw [hl]; omega), if_pos (by omega), rdN, if_pos hg, wS (by omega), wS (by omega)]; rfl
theorem held_ev (N : Nat) (hN : N ≤ 1152921504606846976) : Ev (fun k => laws_heldInt64S.f k (marks 1 N) 1) ((1 + N : Nat) : Int) :=
  held_l0 1 N (by omega) N 0 (by omega)

/-! ### backwards -/
theorem back_l0 (l : List Int) (hb : l.length < 17592186044416) : ∀ n out, n ≤ l.length → out.length + n ≤ l.length → Ev (fun k => spec_l01Back.l0 k l out ((n : Int) - 1)) (out ++ (l.take n).reverse) := by
  intro n
  induction n with
  | zero =>
    intro out _ _
    refine Ev.step (f := fun _ => some _) (fun k => ?_) (Ev.now _)
    simp only [spec_l01Back.l0]; rw [if_neg (by omega)]; simp
  | succ n ih =>
    intro out hn ho
    rw [take_snoc (by omega), List.reverse_append, List.reverse_singleton, ← List.append_assoc]
    refine Ev.step (fun k => ?_) (ih (out ++ [l.getD n 0]) (by omega) (by simp; omega))
    simp only [spec_l01Back.l0]
    rw [show ((n + 1 : Nat) : Int) - 1 = (n : Int) from by omega, if_pos (by omega), if_pos (by omega), if_pos (by omega), if_pos (by omega), rdN, show wrap64 ((n : Int) - 1) = (n : Int) - 1 from by unfold wrap64; omega]
theorem back_ev (l : List Int) (hb : l.length < 17592186044416) : Ev (fun k => spec_l01Back.f k l) l.reverse := by
  have h := back_l0 l hb l.length [] (by omega) (by simp)
  rw [List.take_length, List.nil_append] at h
  refine Ev.congr (fun k => ?_) h
  unfold spec_l01Back.f
  rw [show wrap64 ((l.length : Int) - 1) = (l.length : Int) - 1 from by unfold wrap64; omega]
theorem rev_l0 : ∀ n (a m b : List Int), m.length ≤ n → (a ++ m ++ b).length < 17592186044416 → Ev (fun k => slices_Reverse_int64_int64.l0 k (a ++ m ++ b) (a.length : Int) ((a.length : Int) + (m.length : Int) - 1)) (a ++ m.reverse ++ b) := by
  intro n
  induction n with
  | zero =>
    intro a m b hm hb
    obtain rfl : m = [] := List.length_eq_zero_iff.1 (by omega)
    refine Ev.step (f := fun _ => some _) (fun k => ?_) (Ev.now _)
    simp only [slices_Reverse_int64_int64.l0]; rw [if_neg (by simp; omega)]; rfl
  | succ n ih =>
    intro a m b hm hb
    match m with
    | [] =>
      refine Ev.step (f := fun _ => some _) (fun k => ?_) (Ev.now _)
      simp only [slices_Reverse_int64_int64.l0]; rw [if_neg (by simp; omega)]; rfl
    | [x] =>
      refine Ev.step (f := fun _ => some _) (fun k => ?_) (Ev.now _)
      simp only [slices_Reverse_int64_int64.l0]; rw [if_neg (by simp)]; rfl
    | x :: z :: t =>
      obtain ⟨m', y, e⟩ : ∃ m' y, z :: t = m' ++ [y] := ⟨_, _, (List.dropLast_concat_getLast (by simp)).symm⟩
      rw [e] at hm hb ⊢
      simp only [List.length_append, List.length_cons, List.length_nil] at hm hb
      have h := ih (a ++ [y]) m' (x :: b) (by omega) (by simp; omega)
      rw [show a ++ (x :: (m' ++ [y])).reverse ++ b = a ++ [y] ++ m'.reverse ++ x :: b from by simp]
      refine Ev.step (fun k => ?_) h
      have e1 : (a.length : Int) + ((x :: (m' ++ [y])).length : Int) - 1 = ((a.length + m'.length + 1 : Nat) : Int) := by simp; omega
      have L : (a ++ (x :: (m' ++ [y])) ++ b).length = a.length + (m'.length + 2) + b.length := by simp; omega
      have gx : (a ++ (x :: (m' ++ [y])) ++ b).getD a.length 0 = x := by
        rw [List.append_assoc, List.getD_eq_getElem?_getD, List.getElem?_append_right (Nat.le_refl _)]; simp
      have gy : (a ++ (x :: (m' ++ [y])) ++ b).getD (a.length + m'.length + 1) 0 = y := by
        rw [List.getD_eq_getElem?_getD, show a ++ (x :: (m' ++ [y])) ++ b = (a ++ x :: m') ++ y :: b from by simp, List.getElem?_append_right (by simp; omega)]
        simp [show a.length + m'.length + 1 - (a.length + (m'.length + 1)) = 0 from by omega]
      simp only [slices_Reverse_int64_int64.l0]
      rw [e1, if_pos (by omega), if_pos (by omega), if_pos (by omega), if_pos (by omega), if_pos (by omega), rdN, rdN, gx, gy, Int.toNat_natCast, Int.toNat_natCast, wS (by omega)]
      have s1 : (a ++ (x :: (m' ++ [y])) ++ b).set a.length y = (a ++ y :: m') ++ y :: b := by
        rw [List.append_assoc, List.set_append_right _ _ (Nat.le_refl _), Nat.sub_self]; simp
      have s2 : ((a ++ y :: m') ++ y :: b).set (a.length + m'.length + 1) x = a ++ [y] ++ m' ++ x :: b := by
        rw [List.set_append_right _ _ (by simp; omega), show a.length + m'.length + 1 - (a ++ y :: m').length = 0 from by simp; omega, List.set_cons_zero]; simp
      rw [s1, s2, show wrap64 (((a.length + m'.length + 1 : Nat) : Int) - 1) = ((a ++ [y]).length : Int) + (m'.length : Int) - 1 from by simp; unfold wrap64; omega, show ((a.length + 1 : Nat) : Int) = ((a ++ [y]).length : Int) from by simp]
theorem reverse_ev (l : List Int) (hb : l.length < 17592186044416) : Ev (fun k => slices_Reverse_int64_int64.f k l) l.reverse := by
  have h := rev_l0 l.length [] l [] (Nat.le_refl _) (by simpa using hb)
  simp only [List.nil_append, List.append_nil, List.length_nil] at h
  refine Ev.congr (fun k => ?_) h
  unfold slices_Reverse_int64_int64.f
  rw [show wrap64 ((l.length : Int) - 1) = ((0 : Nat) : Int) + (l.length : Int) - 1 from by unfold wrap64; omega]; rfl
theorem reversed_ev (l : List Int) (hb : l.length < 17592186044416) : Ev (fun k => impl_reversed.f k l) l.reverse := by
  unfold impl_reversed.f
  refine Ev.bind (a := l) (Ev.congr (fun _ => by unfold slices_Clone_int64_int64.f; rw [if_pos (by omega)]) (Ev.now _)) ?_
  exact Ev.bind (reverse_ev l hb) (Ev.now _)
theorem own_f (l : List Int) (hb : l.length < 17592186044416) : spec_l01Own.f l = some l := by
  unfold spec_l01Own.f
  rw [Option.bind_some, if_pos (by simpa using hb)]; rfl

/-! ### places on the program's side -/
theorem index_l0 (l : List Int) (x : Int) (hb : l.length < 4611686018427387904) : ∀ d n, n + d = l.length → x ∈ l.drop n → Ev (fun k => slices_Index_int64_int64.l0 k l x (l.length : Int) (n : Int)) ((n + (l.drop n).idxOf x : Nat) : Int) := by
  intro d
  induction d with
  | zero => intro n hn hx; rw [List.drop_of_length_le (by omega)] at hx; exact absurd hx (by simp)
  | succ d ih =>
    intro n hn hx
    rw [drop_cons (by omega)] at hx ⊢
    by_cases e : x = l.getD n 0
    · refine Ev.step (f := fun _ => some (n : Int)) (fun k => ?_) ?_
      · simp only [slices_Index_int64_int64.l0]; rw [if_pos (by omega), if_pos (by omega), if_pos (by omega), rdN, if_pos e]
      · rw [← e, List.idxOf_cons_self]; exact Ev.now _
    · have hx' : x ∈ l.drop (n + 1) := (List.mem_cons.1 hx).resolve_left e
      rw [List.idxOf_cons, show (l.getD n 0 == x) = false from beq_eq_false_iff_ne.2 (Ne.symm e), cond_false, show n + ((l.drop (n + 1)).idxOf x + 1) = n + 1 + (l.drop (n + 1)).idxOf x from by omega]
      refine Ev.step (fun k => ?_) (ih (n + 1) (by omega) hx')
      simp only [slices_Index_int64_int64.l0]; rw [if_pos (by omega), if_pos (by omega), if_pos (by omega), rdN, if_neg e, wS (by omega)]
theorem index_ev (l : List Int) (x : Int) (hb : l.length < 4611686018427387904) (hx : x ∈ l) : Ev (fun k => slices_Index_int64_int64.f k l x) (l.idxOf x : Int) := by
  have h := index_l0 l x hb l.length 0 (by omega) hx
  rw [Nat.zero_add] at h
  exact h
theorem iplaces_ev (w : List Int) (x : Int) (hb : w.length < 4611686018427387904) (h : w.count x = 2) : Ev (fun k => impl_places.f k w x) ((pA w x : Int), (pB w x : Int)) := by
  have hm : x ∈ w := List.count_pos_iff.1 (by omega)
  have hp := places_lt h
  have hm2 : x ∈ w.drop (pA w x + 1) := by
    obtain ⟨u, v, t, rfl, hu, hv, ht⟩ := split2 h
    rw [pA_of hu, drop_mid]; simp
  unfold impl_places.f
  have hi : Ev (fun k => slices_Index_int64_int64.f k w x) (pA w x : Int) := index_ev w x hb hm
  refine Ev.bind hi ?_
  show Ev (fun k => if 0 ≤ wrap64 ((pA w x : Int) + 1) then _ else none) _
  have e := wS (n := pA w x) (by omega)
  refine Ev.congr (f := fun k => (slices_Index_int64_int64.f k (w.drop (pA w x + 1)) x).bind fun t295 => some ((pA w x : Int), wrap64 (((pA w x + 1 : Nat) : Int) + t295))) (fun k => ?_) ?_
  · rw [e, if_pos (by omega), if_pos (by omega), Int.toNat_natCast]
  · refine Ev.bind (index_ev _ x (by rw [List.length_drop]; omega) hm2) ?_
    have e2 : wrap64 (((pA w x + 1 : Nat) : Int) + ((w.drop (pA w x + 1)).idxOf x : Int)) = (pB w x : Int) := by
      have : pB w x = pA w x + 1 + (w.drop (pA w x + 1)).idxOf x := rfl
      unfold wrap64; omega
    rw [← e2]; exact Ev.now _

/-! ### chords -/
theorem chords_f (w : List Int) (h : w.length ≤ 12) : impl_chords.f w = some ((w.length / 2 : Nat) : Int) := by
  unfold impl_chords.f
  rw [show wrap64 ((w.length : Int) / 2) = ((w.length / 2 : Nat) : Int) from by unfold wrap64; omega]
theorem isChord_f (w : List Int) (h : w.length ≤ 12) (i : Int) : impl_isChord.f w i = some (decide (0 ≤ i ∧ i < ((w.length / 2 : Nat) : Int))) := by
  unfold impl_isChord.f
  rw [chords_f w h, Option.bind_some, in_f, Option.bind_some]
  congr 1
  rw [decide_eq_decide, show wrap64 (((w.length / 2 : Nat) : Int) - 1) = ((w.length / 2 : Nat) : Int) - 1 from by unfold wrap64; omega]
  omega
theorem code10_l0 (w ls : List Int) (h : w.length ≤ 12) (hb : ls.length < 4611686018427387904) : ∀ d n, n + d = ls.length → Ev (fun k => spec_l10Code.l0 k w ls (n : Int)) (if ∀ i ∈ ls.drop n, 0 ≤ i ∧ i < ((w.length / 2 : Nat) : Int) then 0 else 2) := by
  intro d
  induction d with
  | zero =>
    intro n hn
    rw [List.drop_of_length_le (by omega), if_pos (by simp)]
    refine Ev.step (f := fun _ => some _) (fun k => ?_) (Ev.now _)
    simp only [spec_l10Code.l0]; rw [if_neg (by omega)]
  | succ d ih =>
    intro n hn
    rw [drop_cons (by omega)]
    have hh := ih (n + 1) (by omega)
    refine Ev.step (f := fun k => if 0 ≤ ls.getD n 0 ∧ ls.getD n 0 < ((w.length / 2 : Nat) : Int) then spec_l10Code.l0 k w ls ((n + 1 : Nat) : Int) else some 2) (fun k => ?_) ?_
    · simp only [spec_l10Code.l0]
      rw [if_pos (by omega), if_pos (by omega), rdN, spec_in_f, Option.bind_some, wS (by omega), show wrap64 (wrap64 ((w.length : Int) / 2) - 1) = ((w.length / 2 : Nat) : Int) - 1 from by unfold wrap64; omega]
      by_cases g : 0 ≤ ls.getD n 0 ∧ ls.getD n 0 < ((w.length / 2 : Nat) : Int)
      · rw [if_pos g, if_pos (by rw [decide_eq_true_eq]; omega)]
      · rw [if_neg g, if_neg (by rw [decide_eq_true_eq]; omega)]
    by_cases g : 0 ≤ ls.getD n 0 ∧ ls.getD n 0 < ((w.length / 2 : Nat) : Int)
    · refine Ev.congr (fun k => if_pos g) ?_
      have e : (∀ i ∈ ls.getD n 0 :: ls.drop (n + 1), 0 ≤ i ∧ i < ((w.length / 2 : Nat) : Int)) ↔ ∀ i ∈ ls.drop (n + 1), 0 ≤ i ∧ i < ((w.length / 2 : Nat) : Int) := by
        rw [List.forall_mem_cons]; exact ⟨fun h => h.2, fun h => ⟨g, h⟩⟩
      simp only [e]; exact hh
    · refine Ev.congr (fun k => if_neg g) ?_
      rw [if_neg (fun h => g (h _ List.mem_cons_self))]; exact Ev.now _
theorem code10_ev (w ls : List Int) (hb : ls.length < 4611686018427387904) : Ev (fun k => spec_l10Code.f k w ls) (if isW w = true then (if ∀ i ∈ ls, 0 ≤ i ∧ i < ((w.length / 2 : Nat) : Int) then 0 else 2) else 1) := by
  unfold spec_l10Code.f
  refine Ev.bind (is_ev w) ?_
  by_cases h : isW w = true
  · rw [if_pos h]
    exact Ev.congr (fun k => if_pos h) (code10_l0 w ls ((isW_iff w).1 h).le hb ls.length 0 (by omega))
  · rw [if_neg h]
    exact Ev.congr (fun k => if_neg h) (Ev.now _)
end Go.Proofs.Ytfijnlbkflmkbaa.Pure
