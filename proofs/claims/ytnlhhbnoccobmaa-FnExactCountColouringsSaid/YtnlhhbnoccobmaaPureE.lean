/- Plain laws: when chords cross, and the rows of crossings, on both sides. -/
import Derived.Test.YtnlhhbnoccobmaaFgA
import Derived.Test.YtnlhhbnoccobmaaPureD
namespace Go.Proofs.Ytnlhhbnoccobmaa.Pure
open Go.RowKit Go.Proofs.Ytnlhhbnoccobmaa.F Go.Proofs.YtnlhhbnoccobmaaW.PrintWords Go.Proofs.YtnlhhbnoccobmaaW.PrintLast

theorem nrm_prefix (a b : List Int) : ∃ t, nrm (a ++ b) = nrm a ++ t := by
  refine snocInd (P := fun b => ∃ t, nrm (a ++ b) = nrm a ++ t) ⟨[], by simp⟩ (fun l x ⟨t, ht⟩ => ?_) b
  rw [← List.append_assoc, nrm_snoc, ht]
  exact ⟨t ++ _, by rw [List.append_assoc]⟩
theorem nrm_take (l : List Int) (n : Nat) : nrm (l.take n) = (nrm l).take n := by
  obtain ⟨t, ht⟩ := nrm_prefix (l.take n) (l.drop n)
  rw [List.take_append_drop] at ht
  have h1 := nrm_len (l.take n)
  have h2 := nrm_len l
  rw [ht, List.length_append] at h2
  rw [List.length_take] at h1
  rw [ht]
  generalize nrm (l.take n) = u at *
  by_cases h : n ≤ l.length
  · have hu : u.length = n := by omega
    rw [← hu, List.take_left]
  · rw [List.length_eq_zero_iff.1 (show t.length = 0 by omega), List.append_nil, List.take_of_length_le (by omega)]
theorem not_mem_first {x : Int} {w : List Int} : x ∉ w.take (w.idxOf x) := by
  intro h
  by_cases hx : x ∈ w
  · obtain ⟨u, v, rfl, hu⟩ := split1 hx
    rw [idxOf_mid hu, List.take_append, Nat.sub_self, List.take_zero, List.append_nil, List.take_length] at h
    exact hu h
  · exact hx (List.mem_of_mem_take h)
theorem first_lt {w : List Int} (hw : Word w) {i k : Nat} (hik : i < k) (hk : k < w.length / 2) : pA w i < pA w k := by
  have hc := hw.count hk
  have hp := places_lt hc
  have hlt : pA w k < w.length := by omega
  have hg : w.getD (pA w k) 0 = (k : Int) := (getD_places hc _ hlt).2 (.inl rfl)
  have h1 := nrm_take w (pA w k)
  have h2 := nrm_take w (pA w k + 1)
  rw [hw.nrm] at h1 h2
  rw [take_snoc hlt, nrm_snoc, h1, hg] at h2
  have hn : (k : Int) ∉ w.take (pA w k) := not_mem_first
  have hm : ¬ (mets (w.take (pA w k))).contains (k : Int) = true := fun h => hn ((mets_mem _ _).1 (List.contains_iff_mem.1 h))
  rw [if_neg hm] at h2
  have h3 : ((mets (w.take (pA w k))).length : Int) = (k : Int) := by
    have := List.append_cancel_left h2
    exact (List.cons.inj this).1
  have h4 : (i : Int) ∈ nrm (w.take (pA w k)) := (nrm_mem _ _).2 ⟨i, by omega, rfl⟩
  rw [h1] at h4
  have hci := hw.count (i := i) (by omega)
  have h5 := count_take hci (pA w k) (by omega)
  have h6 := List.count_pos_iff.2 h4
  have h7 := places_lt hci
  by_cases h : pA w i < pA w k
  · exact h
  · rw [if_neg h, if_neg (by omega)] at h5; omega
theorem places_ne {w : List Int} (hw : Word w) {i k : Nat} (hne : i ≠ k) (hi : i < w.length / 2) (hk : k < w.length / 2) : pA w i ≠ pA w k ∧ pA w i ≠ pB w k ∧ pB w i ≠ pA w k ∧ pB w i ≠ pB w k := by
  have ci := hw.count hi
  have ck := hw.count hk
  have li := places_lt ci
  have lk := places_lt ck
  have a1 : w.getD (pA w i) 0 = (i : Int) := (getD_places ci _ (by omega)).2 (.inl rfl)
  have a2 : w.getD (pB w i) 0 = (i : Int) := (getD_places ci _ (by omega)).2 (.inr rfl)
  have b1 : w.getD (pA w k) 0 = (k : Int) := (getD_places ck _ (by omega)).2 (.inl rfl)
  have b2 : w.getD (pB w k) 0 = (k : Int) := (getD_places ck _ (by omega)).2 (.inr rfl)
  refine ⟨fun h => ?_, fun h => ?_, fun h => ?_, fun h => ?_⟩
  · rw [h, b1] at a1; omega
  · rw [h, b2] at a1; omega
  · rw [h, b1] at a2; omega
  · rw [h, b2] at a2; omega

/-- Two chords cross. -/
def crossB (w : List Int) (i k : Nat) : Bool :=
  !(i == k) && ((decide (pA w i < pA w k) && decide (pA w k < pB w i)) != (decide (pA w i < pB w k) && decide (pB w k < pB w i)))
theorem icross_ev (w : List Int) (hw : Word w) (i k : Nat) (hi : i < w.length / 2) (hk : k < w.length / 2) : Ev (fun n => impl_cross.f n w i k) (crossB w i k) := by
  have hle := hw.le
  unfold impl_cross.f
  refine Ev.bind (iplaces_ev w i (by omega) (hw.count hi)) ?_
  refine Ev.bind (iplaces_ev w k (by omega) (hw.count hk)) ?_
  refine Ev.congr (fun n => ?_) (Ev.now _)
  unfold crossB
  by_cases e : i = k
  · subst e; rw [if_pos rfl]; simp
  · rw [if_neg (by omega), show (i == k) = false from by simpa using e]
    simp only [Int.ofNat_lt, gt_iff_lt]
    by_cases c1 : pA w i < pA w k <;> by_cases c2 : pA w i < pB w k <;> simp [c1, c2]
theorem scross {w : List Int} (hw : Word w) {i k : Nat} (hi : i < w.length / 2) (hk : k < w.length / 2) (hne : k ≠ i) :
    (decide ((pA w i : Int) ≤ (pA w k : Int) ∧ (pA w k : Int) ≤ (pB w i : Int)) != decide ((pA w i : Int) ≤ (pB w k : Int) ∧ (pB w k : Int) ≤ (pB w i : Int))) = crossB w i k := by
  have hp := places_ne hw (Ne.symm hne) hi hk
  unfold crossB
  rw [show (i == k) = false from by simpa using Ne.symm hne]
  have e1 : decide ((pA w i : Int) ≤ (pA w k : Int) ∧ (pA w k : Int) ≤ (pB w i : Int)) = (decide (pA w i < pA w k) && decide (pA w k < pB w i)) := by
    rw [Bool.eq_iff_iff]; simp only [Bool.and_eq_true, decide_eq_true_eq]; omega
  have e2 : decide ((pA w i : Int) ≤ (pB w k : Int) ∧ (pB w k : Int) ≤ (pB w i : Int)) = (decide (pA w i < pB w k) && decide (pB w k < pB w i)) := by
    rw [Bool.eq_iff_iff]; simp only [Bool.and_eq_true, decide_eq_true_eq]; omega
  rw [e1, e2]; simp

/-! ### the rows -/
def ent (w : List Int) (i k : Nat) : Int := if crossB w i k then 1 else 0
def rowTo (w : List Int) (i m : Nat) : List Int := (List.range m).map (ent w i)
def rowsTo (w : List Int) (n : Nat) : List (List Int) := (List.range n).map fun i => rowTo w i (w.length / 2)
def rowsOf (w : List Int) : List (List Int) := rowsTo w (w.length / 2)
theorem rowTo_len (w : List Int) (i m : Nat) : (rowTo w i m).length = m := by simp [rowTo]
theorem rowTo_succ (w : List Int) (i m : Nat) : rowTo w i (m + 1) = rowTo w i m ++ [ent w i m] := by unfold rowTo; rw [List.range_succ, List.map_append]; rfl
theorem rowsTo_len (w : List Int) (n : Nat) : (rowsTo w n).length = n := by simp [rowsTo]
theorem rowsTo_succ (w : List Int) (n : Nat) : rowsTo w (n + 1) = rowsTo w n ++ [rowTo w n (w.length / 2)] := by unfold rowsTo; rw [List.range_succ, List.map_append]; rfl
theorem set_ent (w : List Int) (i m d : Nat) (v : Int) : (rowTo w i m ++ List.replicate (d + 1) 0).set m v = rowTo w i m ++ v :: List.replicate d 0 := by
  have hl := rowTo_len w i m
  rw [List.set_append_right _ _ (by omega), hl, Nat.sub_self, List.replicate_succ, List.set_cons_zero]
theorem half_w' (w : List Int) (h : w.length ≤ 12) : wrap64 ((w.length : Int) / 2) = ((w.length / 2 : Nat) : Int) := by unfold wrap64; omega
theorem srow_l1 (w : List Int) (hw : Word w) (out : List (List Int)) (i : Nat) (hi : i < w.length / 2) (r : List (List Int))
    (hr : Ev (fun k => if out.length < 5864062014805 then spec_l01Cross.l0 k w (out ++ [rowTo w i (w.length / 2)]) ((w.length / 2 : Nat) : Int) ((i + 1 : Nat) : Int) else none) r) :
    ∀ d m, m + d = w.length / 2 → Ev (fun k => spec_l01Cross.l1 k w out ((w.length / 2 : Nat) : Int) (i : Int) (rowTo w i m ++ List.replicate d 0) (pA w i : Int) (pB w i : Int) (m : Int)) r := by
  have hle := hw.le
  intro d
  induction d with
  | zero =>
    intro m hm
    refine Ev.step (fun k => ?_) hr
    simp only [spec_l01Cross.l1]
    rw [if_neg (by omega), wS (by omega), List.replicate_zero, List.append_nil, show m = w.length / 2 from by omega]
  | succ d ih =>
    intro m hm
    have hrow : rowTo w i (m + 1) ++ List.replicate d 0 = rowTo w i m ++ ent w i m :: List.replicate d 0 := by rw [rowTo_succ]; simp
    refine Ev_succ ?_
    simp only [spec_l01Cross.l1]
    refine Ev.congr (fun k => if_pos (by omega)) ?_
    refine Ev.bind (places_ev w m (by omega) (hw.count (by omega))) ?_
    have hh := ih (m + 1) (by omega)
    rw [hrow] at hh
    by_cases e : m = i
    · subst e
      refine Ev.congr (fun k => if_pos rfl) ?_
      rw [show ent w m m = 0 from by simp [ent, crossB], ← List.replicate_succ] at hh
      exact Ev.congr (fun k => by rw [wS (by omega)]) hh
    · refine Ev.congr (fun k => if_neg (by omega)) ?_
      refine Ev.congr (f := fun k => if crossB w i m = true then spec_l01Cross.l1 k w out ((w.length / 2 : Nat) : Int) (i : Int) (rowTo w i m ++ 1 :: List.replicate d 0) (pA w i : Int) (pB w i : Int) ((m + 1 : Nat) : Int) else spec_l01Cross.l1 k w out ((w.length / 2 : Nat) : Int) (i : Int) (rowTo w i m ++ 0 :: List.replicate d 0) (pA w i : Int) (pB w i : Int) ((m + 1 : Nat) : Int)) (fun k => ?_) ?_
      · rw [spec_in_f, Option.bind_some, spec_in_f, Option.bind_some, scross hw hi (by omega) e, wS (by omega), Int.toNat_natCast, set_ent, ← List.replicate_succ]
        have hl := rowTo_len w i m
        by_cases c : crossB w i m = true
        · rw [if_pos c, if_pos c, if_pos (by omega), if_pos (by rw [List.length_append, hl, List.length_replicate]; omega)]
        · rw [if_neg c, if_neg c]
      · by_cases c : crossB w i m = true
        · refine Ev.congr (fun k => if_pos c) ?_
          rw [show ent w i m = 1 from by unfold ent; rw [if_pos c]] at hh; exact hh
        · refine Ev.congr (fun k => if_neg c) ?_
          rw [show ent w i m = 0 from by unfold ent; rw [if_neg c]] at hh; exact hh
theorem srow_l0 (w : List Int) (hw : Word w) : ∀ d n, n + d = w.length / 2 → Ev (fun k => spec_l01Cross.l0 k w (rowsTo w n) ((w.length / 2 : Nat) : Int) (n : Int)) (rowsOf w) := by
  have hle := hw.le
  intro d
  induction d with
  | zero =>
    intro n hn
    refine Ev.step (f := fun _ => some (rowsOf w)) (fun k => ?_) (Ev.now _)
    simp only [spec_l01Cross.l0]; rw [if_neg (by omega), show n = w.length / 2 from by omega]; rfl
  | succ d ih =>
    intro n hn
    refine Ev_succ ?_
    simp only [spec_l01Cross.l0]
    refine Ev.congr (fun k => if_pos (by omega)) ?_
    refine Ev.congr (fun k => if_pos (by omega)) ?_
    refine Ev.congr (fun k => if_pos (by omega)) ?_
    refine Ev.bind (places_ev w n (by omega) (hw.count (by omega))) ?_
    have hl := rowsTo_len w n
    have h := srow_l1 w hw (rowsTo w n) n (by omega) _ (Ev.congr (fun k => if_pos (by omega)) (by have h := ih (n + 1) (by omega); rw [rowsTo_succ] at h; exact h)) (w.length / 2) 0 (by omega)
    rw [show rowTo w n 0 = [] from rfl, List.nil_append] at h
    exact Ev.congr (fun k => by rw [Int.toNat_natCast]; rfl) h
theorem srows_ev (w : List Int) (hw : Word w) : Ev (fun k => spec_l01Cross.f k w) (rowsOf w) := by
  have hle := hw.le
  refine Ev.congr (fun k => ?_) (srow_l0 w hw (w.length / 2) 0 (by omega))
  unfold spec_l01Cross.f
  rw [half_w' w hle]; rfl
end Go.Proofs.Ytnlhhbnoccobmaa.Pure
