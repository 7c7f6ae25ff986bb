/- Plain laws: what LocalComplement comes to on both sides. -/
import Derived.Test.YtfijnlbkflmkbaaFx71
import Derived.Test.YtfijnlbkflmkbaaFx75
import Derived.Test.YtfijnlbkflmkbaaPureD
namespace Go.Proofs.Ytfijnlbkflmkbaa.Pure
open Go.RowKit Go.Proofs.Ytfijnlbkflmkbaa.F Go.Proofs.YtfijnlbkflmkbaaW.PrintWords Go.Proofs.YtfijnlbkflmkbaaW.PrintLast

def localList (w : List Int) (i : Int) : List Int := w.take (pA w i + 1) ++ ((w.take (pB w i)).drop (pA w i + 1)).reverse ++ w.drop (pB w i)
def localV (w : List Int) (i : Int) : List Int × Int :=
  if isW w = true then (if 0 ≤ i ∧ i < ((w.length / 2 : Nat) : Int) then (nrm (localList w i), 0) else ([], 2)) else ([], 1)
theorem localList_mem {w : List Int} {i x : Int} (h : x ∈ localList w i) : x ∈ w := by
  unfold localList at h
  rcases List.mem_append.1 h with h | h
  · rcases List.mem_append.1 h with h | h
    · exact List.mem_of_mem_take h
    · exact List.mem_of_mem_take (List.mem_of_mem_drop (List.mem_reverse.1 h))
  · exact List.mem_of_mem_drop h
theorem localList_len {w : List Int} {i : Int} (h : w.count i = 2) : (localList w i).length = w.length := by
  have := places_lt h
  unfold localList
  simp only [List.length_append, List.length_take, List.length_reverse, List.length_drop]
  omega
theorem specLocal_ev (w : List Int) (i : Int) : Ev (fun k => spec_LocalComplement.f k w i) (localV w i) := by
  unfold spec_LocalComplement.f localV
  refine Ev.bind (code10_ev w [i] (by simp)) ?_
  by_cases h : isW w = true
  · rw [if_pos h, if_pos h]
    have hw := (isW_iff w).1 h
    have hle := hw.le
    by_cases hi : 0 ≤ i ∧ i < ((w.length / 2 : Nat) : Int)
    · have e1 : ∀ j ∈ [i], 0 ≤ j ∧ j < ((w.length / 2 : Nat) : Int) := by simpa using hi
      rw [if_pos e1, if_pos hi]
      refine Ev.congr (fun k => if_pos rfl) ?_
      obtain ⟨n, rfl⟩ := Int.eq_ofNat_of_zero_le hi.1
      have hc := hw.count (i := n) (by omega)
      have hp := places_lt hc
      refine Ev.bind (places_ev w n (by omega) hc) ?_
      have e := wS (n := pA w n) (by omega)
      have hl := localList_len hc
      refine Ev.congr (f := fun k => (spec_l01Back.f k ((w.take (pB w n)).drop (pA w n + 1))).bind fun t489 => if (w.take (pA w n + 1)).length + t489.length < 17592186044416 then ((some (w.take (pA w n + 1) ++ t489 : List Int)).bind fun y492 => if 0 ≤ (pB w n : Int) then (if y492.length + (w.drop (pB w n)).length < 17592186044416 then ((spec_l01Normal.f k (y492 ++ (w.drop (pB w n)))).bind fun t499 => (some (t499, 0))) else none) else none) else none) (fun k => ?_) ?_
      · show (if 0 ≤ wrap64 ((pA w n : Int) + 1) then _ else none) = _
        rw [e, if_pos (by omega), if_pos (by omega), Int.toNat_natCast, own_f _ (by rw [List.length_take]; omega), Option.bind_some]
        show (if ((pA w n + 1 : Nat) : Int) ≤ (pB w n : Int) then _ else none) = _
        rw [if_pos (by omega), if_pos (by omega), Int.toNat_natCast]
      refine Ev.bind (back_ev _ (by simp only [List.length_drop, List.length_take]; omega)) ?_
      refine Ev.congr (f := fun k => (spec_l01Normal.f k (localList w n)).bind fun t499 => some (t499, 0)) (fun k => ?_) ?_
      · unfold localList at hl ⊢
        simp only [List.length_append, List.length_take, List.length_reverse, List.length_drop] at hl
        rw [if_pos (by simp only [List.length_take, List.length_reverse, List.length_drop]; omega), Option.bind_some, if_pos (by omega), if_pos (by simp only [List.length_append, List.length_take, List.length_reverse, List.length_drop]; omega)]
      · exact Ev.bind (normal_ev _ (by omega)) (Ev.now _)
    · have e1 : ¬ ∀ j ∈ [i], 0 ≤ j ∧ j < ((w.length / 2 : Nat) : Int) := by simpa using hi
      rw [if_neg e1, if_neg hi]
      exact Ev.congr (fun k => if_neg (by decide)) (Ev.now _)
  · rw [if_neg h, if_neg h]
    exact Ev.congr (fun k => if_neg (by decide)) (Ev.now _)
theorem implLocal_ev (w : List Int) (i : Int) (hwf : ∀ x ∈ w, (Lit.int .i64 x).wf = true) : Ev (fun k => impl_LocalComplement.f k w i) (localV w i) := by
  unfold impl_LocalComplement.f localV
  refine Ev.bind (isWord_ev w hwf) ?_
  by_cases h : isW w = true
  · rw [if_pos h]
    refine Ev.congr (fun k => if_pos h) ?_
    have hw := (isW_iff w).1 h
    have hle := hw.le
    by_cases hi : 0 ≤ i ∧ i < ((w.length / 2 : Nat) : Int)
    · rw [if_pos hi]
      refine Ev.congr (f := fun k => (impl_places.f k w i).bind _) (fun k => by rw [isChord_f w hle, Option.bind_some, if_pos (decide_eq_true hi)]) ?_
      obtain ⟨n, rfl⟩ := Int.eq_ofNat_of_zero_le hi.1
      have hc := hw.count (i := n) (by omega)
      have hp := places_lt hc
      refine Ev.bind (iplaces_ev w n (by omega) hc) ?_
      have e := wS (n := pA w n) (by omega)
      have hl := localList_len hc
      refine Ev.congr (f := fun k => (impl_reversed.f k ((w.take (pB w n)).drop (pA w n + 1))).bind fun t526 => if 0 ≤ (pB w n : Int) then ((slices_Concat_int64_int64.f ([w.take (pA w n + 1), t526, w.drop (pB w n)] : List (List Int))).bind fun t537 => ((impl_normal.f t537).bind fun t540 => (some (t540, 0)))) else none) (fun k => ?_) ?_
      · show (if 0 ≤ wrap64 ((pA w n : Int) + 1) then _ else none) = _
        rw [e, if_pos (by omega), if_pos (by omega), Int.toNat_natCast]
        show (if ((pA w n + 1 : Nat) : Int) ≤ (pB w n : Int) then _ else none) = _
        rw [if_pos (by omega), if_pos (by omega), Int.toNat_natCast]
      refine Ev.bind (reversed_ev _ (by simp only [List.length_drop, List.length_take]; omega)) ?_
      refine Ev.congr (fun k => ?_) (Ev.now _)
      have hfl : ([w.take (pA w n + 1), ((w.take (pB w n)).drop (pA w n + 1)).reverse, w.drop (pB w n)] : List (List Int)).flatten = localList w n := by simp [localList]
      unfold slices_Concat_int64_int64.f
      rw [if_pos (by omega), hfl, if_pos (by simp only [List.length_cons, List.length_nil]; omega), Option.bind_some]
      unfold impl_normal.f
      rw [if_pos (okL_of (by omega) (fun x hx => hwf x (localList_mem hx))), Option.bind_some]
    · rw [if_neg hi]
      exact Ev.congr (fun k => by rw [isChord_f w hle, Option.bind_some, if_neg (by simpa using hi)]) (Ev.now _)
  · rw [if_neg h]
    exact Ev.congr (fun k => if_neg h) (Ev.now _)
theorem localV_len (w : List Int) (i : Int) : (localV w i).1.length ≤ 1048576 := by
  unfold localV
  by_cases h : isW w = true
  · rw [if_pos h]
    have hw := (isW_iff w).1 h
    have hle := hw.le
    by_cases hi : 0 ≤ i ∧ i < ((w.length / 2 : Nat) : Int)
    · rw [if_pos hi]
      obtain ⟨n, rfl⟩ := Int.eq_ofNat_of_zero_le hi.1
      have := localList_len (hw.count (i := n) (by omega))
      rw [nrm_len]; omega
    · rw [if_neg hi]; simp
  · rw [if_neg h]; simp
end Go.Proofs.Ytfijnlbkflmkbaa.Pure
