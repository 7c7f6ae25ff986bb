/- Plain laws: what PivotWord comes to on both sides. -/
import Derived.Test.YtfijnlbkflmkbaaFx87
import Derived.Test.YtfijnlbkflmkbaaFx88
import Derived.Test.YtfijnlbkflmkbaaPureE
namespace Go.Proofs.Ytfijnlbkflmkbaa.Pure
open Go.RowKit Go.Proofs.Ytfijnlbkflmkbaa.F Go.Proofs.YtfijnlbkflmkbaaW.PrintWords Go.Proofs.YtfijnlbkflmkbaaW.PrintLast

theorem getD_eq_of {l : List Int} {n : Nat} (h : n < l.length) : (l.take (n + 1)).drop n = [l.getD n 0] := by
  rw [take_snoc h, List.drop_append_of_le_length (by rw [List.length_take]; omega), List.drop_of_length_le (by rw [List.length_take]; omega), List.nil_append]
theorem slice_cons {l : List Int} {b c : Nat} (h1 : b + 1 ≤ c) (h2 : c ≤ l.length) : (l.take c).drop b = (l.take (b + 1)).drop b ++ (l.take c).drop (b + 1) := by
  rw [drop_cons (by rw [List.length_take]; omega), getD_eq_of (by omega), List.singleton_append]
  congr 1
  rw [List.getD_eq_getElem?_getD, List.getD_eq_getElem?_getD, List.getElem?_take_of_lt (by omega)]

def pivList (w : List Int) (m M : Nat) : List Int :=
  w.take (pA w m + 1) ++ (w.take (pB w M)).drop (pB w m + 1) ++ (w.take (pB w m)).drop (pA w M) ++ [w.getD (pB w m) 0] ++ (w.take (pA w M)).drop (pA w m + 1) ++ w.drop (pB w M)
def pivV (w : List Int) (i k : Int) : List Int × Int :=
  if isW w = true then (if (0 ≤ i ∧ i < ((w.length / 2 : Nat) : Int)) ∧ 0 ≤ k ∧ k < ((w.length / 2 : Nat) : Int) then (if crossB w i.toNat k.toNat = true then (nrm (pivList w (min i.toNat k.toNat) (max i.toNat k.toNat)), 0) else ([], 5)) else ([], 2)) else ([], 1)
theorem cross_order {w : List Int} (hw : Word w) {i k : Nat} (hi : i < w.length / 2) (hk : k < w.length / 2) (h : crossB w i k = true) :
    pA w (min i k : Nat) < pA w (max i k : Nat) ∧ pA w (max i k : Nat) < pB w (min i k : Nat) ∧ pB w (min i k : Nat) < pB w (max i k : Nat) ∧ pB w (max i k : Nat) < w.length ∧ i ≠ k := by
  have li := places_lt (hw.count hi)
  have lk := places_lt (hw.count hk)
  have hne : i ≠ k := by
    intro e; subst e; unfold crossB at h; simp at h
  unfold crossB at h
  rw [show (i == k) = false from by simpa using hne] at h
  simp only [Bool.not_false, Bool.true_and, bne_iff_ne, ne_eq] at h
  have hp := places_ne hw hne hi hk
  by_cases c : i < k
  · have hf := first_lt hw c hk
    rw [Nat.min_eq_left (by omega), Nat.max_eq_right (by omega)]
    refine ⟨hf, ?_, ?_, by omega, hne⟩
    · by_cases x : pA w k < pB w i
      · exact x
      · exact absurd (by rw [decide_eq_true hf, decide_eq_false x, decide_eq_true (show pA w i < pB w k by omega), decide_eq_false (show ¬ pB w k < pB w i by omega)]) h
    · by_cases x : pB w i < pB w k
      · exact x
      · exact absurd (by rw [decide_eq_true hf, decide_eq_true (show pA w k < pB w i by omega), decide_eq_true (show pA w i < pB w k by omega), decide_eq_true (show pB w k < pB w i by omega)]) h
  · have hf := first_lt hw (show k < i by omega) hi
    rw [Nat.min_eq_right (by omega), Nat.max_eq_left (by omega)]
    refine ⟨hf, ?_, ?_, by omega, hne⟩
    · by_cases x : pA w i < pB w k
      · exact x
      · exact absurd (by rw [decide_eq_false (show ¬ pA w i < pA w k by omega), decide_eq_false x]; rfl) h
    · by_cases x : pB w k < pB w i
      · exact x
      · exact absurd (by rw [decide_eq_false (show ¬ pA w i < pA w k by omega), decide_eq_false x]; simp) h
theorem pivList_mem {w : List Int} {m M : Nat} (hm : pB w m < w.length) {x : Int} (h : x ∈ pivList w m M) : x ∈ w := by
  unfold pivList at h
  simp only [List.mem_append, List.mem_singleton] at h
  rcases h with ((((h | h) | h) | h) | h) | h
  · exact List.mem_of_mem_take h
  · exact List.mem_of_mem_take (List.mem_of_mem_drop h)
  · exact List.mem_of_mem_take (List.mem_of_mem_drop h)
  · rw [h]; exact getD_mem hm
  · exact List.mem_of_mem_take (List.mem_of_mem_drop h)
  · exact List.mem_of_mem_drop h
theorem pivList_len (w : List Int) (m M : Nat) : (pivList w m M).length ≤ 5 * w.length + 1 := by
  unfold pivList
  simp only [List.length_append, List.length_take, List.length_drop, List.length_cons, List.length_nil]
  omega
theorem take12 {w : List Int} (h : w.length ≤ 12) (n : Nat) : (w.take n).length ≤ 12 := by rw [List.length_take]; omega
theorem slice12 {w : List Int} (h : w.length ≤ 12) (m n : Nat) : ((w.take n).drop m).length ≤ 12 := by rw [List.length_drop, List.length_take]; omega
theorem drop12 {w : List Int} (h : w.length ≤ 12) (n : Nat) : (w.drop n).length ≤ 12 := by rw [List.length_drop]; omega
theorem ifp {α : Type} {c : Prop} [Decidable c] {a b r : α} (h : c) (e : a = r) : (if c then a else b) = r := (if_pos h).trans e
theorem bsm {α β : Type} {x : α} {f : α → Option β} {r : Option β} (e : f x = r) : (some x).bind f = r := e
theorem mn_nat (i k : Nat) : mn (i : Int) (k : Int) = ((min i k : Nat) : Int) := by unfold mn; omega
theorem mx_nat (i k : Nat) : mx (i : Int) (k : Int) = ((max i k : Nat) : Int) := by unfold mx; omega
theorem specPiv_ev (w : List Int) (i k : Int) : Ev (fun n => spec_PivotWord.f n w i k) (pivV w i k) := by
  unfold spec_PivotWord.f pivV
  refine Ev.bind (code10_ev w [i, k] (by simp)) ?_
  by_cases h : isW w = true
  · rw [if_pos h, if_pos h]
    have hw := (isW_iff w).1 h
    have hle := hw.le
    by_cases hi : (0 ≤ i ∧ i < ((w.length / 2 : Nat) : Int)) ∧ 0 ≤ k ∧ k < ((w.length / 2 : Nat) : Int)
    · have e1 : ∀ j ∈ [i, k], 0 ≤ j ∧ j < ((w.length / 2 : Nat) : Int) := by
        intro j hj
        rcases List.mem_cons.1 hj with rfl | hj
        · exact hi.1
        · rw [List.mem_singleton.1 hj]; exact hi.2
      rw [if_pos e1, if_pos hi]
      refine Ev.congr (fun n => if_pos rfl) ?_
      obtain ⟨i, rfl⟩ := Int.eq_ofNat_of_zero_le hi.1.1
      obtain ⟨k, rfl⟩ := Int.eq_ofNat_of_zero_le hi.2.1
      have hin : i < w.length / 2 := by omega
      have hkn : k < w.length / 2 := by omega
      simp only [Int.toNat_natCast]
      have key : ∀ b : Bool, b = !(crossB w i k) → Ev (fun n => spec_PivotWord.j0 n w i k 0 b) (if crossB w i k = true then (nrm (pivList w (min i k) (max i k)), 0) else ([], 5)) := by
        intro b hb
        subst hb
        refine Ev_succ ?_
        simp only [spec_PivotWord.j0]
        by_cases hc : crossB w i k = true
        · rw [if_pos hc, hc]
          refine Ev.congr (fun n => if_neg (by simp)) ?_
          refine Ev_succ ?_
          simp only [spec_PivotWord.j1, if_true]
          have ho := cross_order hw hin hkn hc
          have cm := hw.count (i := min i k) (by omega)
          have cM := hw.count (i := max i k) (by omega)
          generalize hm : min i k = m at *
          generalize hM : max i k = M at *
          refine Ev.bind (a := ((pA w m : Int), (pB w m : Int))) (Ev.congr (fun n => by rw [mn_nat, hm]) (places_ev w m (by omega) cm)) ?_
          refine Ev.bind (a := ((pA w M : Int), (pB w M : Int))) (Ev.congr (fun n => by rw [mx_nat, hM]) (places_ev w M (by omega) cM)) ?_
          have eA := wS (n := pA w m) (by omega)
          have eB := wS (n := pB w m) (by omega)
          have hlen := pivList_len w m M
          refine Ev.congr (f := fun n => (spec_l01Normal.f n (pivList w m M)).bind fun t => some (t, 0)) (fun n => ?_) (Ev.bind (normal_ev _ (by omega)) (Ev.now _))
          have L1 := take12 hle (pA w m + 1)
          have L2 := slice12 hle (pB w m + 1) (pB w M)
          have L3 := slice12 hle (pA w M) (pB w m)
          have L4 := slice12 hle (pA w m + 1) (pA w M)
          have L5 := drop12 hle (pB w M)
          unfold pivList
          simp only [eA, eB, Int.toNat_natCast, rdN]
          clear eA eB hlen cm cM hi e1 hw h hm hM hc
          generalize pA w m = a at *
          generalize pB w m = c at *
          generalize pA w M = b at *
          generalize pB w M = d at *
          refine ifp (by omega) (ifp (by omega) ?_)
          rw [own_f _ (by omega)]
          refine bsm (ifp (by omega) (ifp (by omega) (ifp (by omega) (ifp (by omega) (bsm ?_)))))
          refine ifp (by omega) (ifp (by omega) (ifp (by omega) (ifp (by rw [List.length_append]; omega) (bsm ?_))))
          refine ifp (by omega) (ifp (by omega) (ifp (by rw [List.length_append, List.length_append]; omega) (bsm ?_)))
          refine ifp (by omega) (ifp (by omega) (ifp (by rw [List.length_append, List.length_append, List.length_append, List.length_singleton]; omega) (bsm ?_)))
          exact ifp (by omega) (ifp (by rw [List.length_append, List.length_append, List.length_append, List.length_append, List.length_singleton]; omega) rfl)
        · rw [if_neg hc]
          have hf : crossB w i k = false := by simpa using hc
          rw [hf]
          refine Ev.congr (fun n => if_pos rfl) ?_
          refine Ev.step (f := fun _ => some _) (fun n => ?_) (Ev.now _)
          simp only [spec_PivotWord.j1]; rw [if_neg (by decide)]
      by_cases e : i = k
      · subst e
        refine Ev.congr (fun n => if_pos rfl) (key true ?_)
        simp [crossB]
      · refine Ev.congr (fun n => if_neg (by omega)) ?_
        refine Ev.bind (srows_ev w hw) ?_
        have hl : (rowsOf w).length = w.length / 2 := rowsTo_len w _
        have hr : rd_L1 (rowsOf w) (i : Int) = rowTo w i (w.length / 2) := by unfold rd_L1; rw [Int.toNat_natCast]; exact rowsOf_get hin
        refine Ev.congr (fun n => ?_) (key ((rd (rowTo w i (w.length / 2)) (k : Int)) == 0) ?_)
        · rw [if_pos (by omega), if_pos (by rw [hl]; omega), if_pos (by omega), hr, if_pos (by rw [rowTo_len]; omega)]
        · rw [rdN, rowTo_get hkn]
          unfold ent
          cases crossB w i k <;> rfl
    · have e1 : ¬ ∀ j ∈ [i, k], 0 ≤ j ∧ j < ((w.length / 2 : Nat) : Int) := fun h => hi ⟨h i (by simp), h k (by simp)⟩
      rw [if_neg e1, if_neg hi]
      refine Ev.congr (fun n => if_neg (by decide)) ?_
      refine Ev_succ ?_
      simp only [spec_PivotWord.j0, Bool.false_eq_true, if_false]
      refine Ev.step (f := fun _ => some _) (fun n => ?_) (Ev.now _)
      simp only [spec_PivotWord.j1]; rw [if_neg (by decide)]
  · rw [if_neg h, if_neg h]
    refine Ev.congr (fun n => if_neg (by decide)) ?_
    refine Ev_succ ?_
    simp only [spec_PivotWord.j0, Bool.false_eq_true, if_false]
    refine Ev.step (f := fun _ => some _) (fun n => ?_) (Ev.now _)
    simp only [spec_PivotWord.j1]; rw [if_neg (by decide)]
theorem implPiv_ev (w : List Int) (i k : Int) (hwf : ∀ x ∈ w, (Lit.int .i64 x).wf = true) : Ev (fun n => impl_PivotWord.f n w i k) (pivV w i k) := by
  unfold impl_PivotWord.f pivV
  refine Ev.bind (isWord_ev w hwf) ?_
  by_cases h : isW w = true
  · rw [if_pos h]
    refine Ev.congr (fun n => if_pos h) ?_
    have hw := (isW_iff w).1 h
    have hle := hw.le
    by_cases hi : (0 ≤ i ∧ i < ((w.length / 2 : Nat) : Int)) ∧ 0 ≤ k ∧ k < ((w.length / 2 : Nat) : Int)
    · rw [if_pos hi]
      refine Ev.congr (f := fun n => impl_PivotWord.j0 n w i k false) (fun n => by rw [isChord_f w hle, Option.bind_some, if_pos (decide_eq_true hi.1), isChord_f w hle, Option.bind_some, decide_eq_true hi.2]; rfl) ?_
      obtain ⟨i, rfl⟩ := Int.eq_ofNat_of_zero_le hi.1.1
      obtain ⟨k, rfl⟩ := Int.eq_ofNat_of_zero_le hi.2.1
      have hin : i < w.length / 2 := by omega
      have hkn : k < w.length / 2 := by omega
      simp only [Int.toNat_natCast]
      refine Ev_succ ?_
      simp only [impl_PivotWord.j0, Bool.false_eq_true, if_false]
      refine Ev.bind (icross_ev w hw i k hin hkn) ?_
      by_cases hc : crossB w i k = true
      · rw [if_pos hc]
        refine Ev.congr (fun n => if_pos hc) ?_
        have ho := cross_order hw hin hkn hc
        have cm := hw.count (i := min i k) (by omega)
        have cM := hw.count (i := max i k) (by omega)
        generalize hm : min i k = m at *
        generalize hM : max i k = M at *
        refine Ev.bind (a := ((pA w m : Int), (pB w m : Int))) (Ev.congr (fun n => by rw [mn_nat, hm]) (iplaces_ev w m (by omega) cm)) ?_
        refine Ev.bind (a := ((pA w M : Int), (pB w M : Int))) (Ev.congr (fun n => by rw [mx_nat, hM]) (iplaces_ev w M (by omega) cM)) ?_
        refine Ev.congr (fun n => ?_) (Ev.now _)
        have bA : pA w m < 13 := by omega
        have bB : pB w m < 13 := by omega
        have bC : pA w M < 13 := by omega
        have hlen := pivList_len w m M
        have hfl : ([w.take (pA w m + 1), (w.take (pB w M)).drop (pB w m + 1), (w.take (pA w M + 1)).drop (pA w M), (w.take (pB w m)).drop (pA w M + 1), (w.take (pB w m + 1)).drop (pB w m), (w.take (pA w M)).drop (pA w m + 1), w.drop (pB w M)] : List (List Int)).flatten = pivList w m M := by
          unfold pivList
          rw [slice_cons (b := pA w M) (c := pB w m) (by omega) (by omega), getD_eq_of (n := pB w m) (by omega)]
          simp only [List.flatten_cons, List.flatten_nil, List.append_nil, List.append_assoc]
        have hmem : ∀ x ∈ pivList w m M, (Lit.int .i64 x).wf = true := fun x hx => hwf x (pivList_mem (by omega) hx)
        have eA := wS (n := pA w m) (Nat.lt_trans bA (by decide))
        have eB := wS (n := pB w m) (Nat.lt_trans bB (by decide))
        have eC := wS (n := pA w M) (Nat.lt_trans bC (by decide))
        clear bA bB bC
        simp only [eA, eB, eC, Int.toNat_natCast]
        generalize pivList w m M = P at *
        clear eA eB eC cm cM hi hw h hm hM hc
        generalize pA w m = a at *
        generalize pB w m = c at *
        generalize pA w M = b at *
        generalize pB w M = d at *
        refine ifp (by omega) (ifp (by omega) (ifp (by omega) (ifp (by omega) (ifp (by omega) (ifp (by omega) (ifp (by omega) (ifp (by omega) ?_)))))))
        refine ifp (by omega) (ifp (by omega) (ifp (by omega) (ifp (by omega) (ifp (by omega) (ifp (by omega) (ifp (by omega) (ifp (by omega) (ifp (by omega) ?_))))))))
        unfold slices_Concat_int64_int64.f
        rw [hfl, if_pos (by simp only [List.length_cons, List.length_nil]; omega), Option.bind_some]
        unfold impl_normal.f
        rw [if_pos (okL_of (by omega) hmem), Option.bind_some]
      · rw [if_neg hc]
        exact Ev.congr (fun n => if_neg hc) (Ev.now _)
    · rw [if_neg hi]
      refine Ev.congr (f := fun n => impl_PivotWord.j0 n w i k true) (fun n => ?_) ?_
      · rw [isChord_f w hle, Option.bind_some]
        by_cases h1 : 0 ≤ i ∧ i < ((w.length / 2 : Nat) : Int)
        · rw [if_pos (decide_eq_true h1), isChord_f w hle, Option.bind_some, decide_eq_false (fun h2 => hi ⟨h1, h2⟩)]; rfl
        · rw [if_neg (by simpa using h1)]
      · refine Ev.step (f := fun _ => some _) (fun n => ?_) (Ev.now _)
        simp only [impl_PivotWord.j0, if_true]
  · rw [if_neg h]
    exact Ev.congr (fun n => if_neg h) (Ev.now _)
theorem pivV_len (w : List Int) (i k : Int) : (pivV w i k).1.length ≤ 1048576 := by
  unfold pivV
  split
  · rename_i h
    have hle := ((isW_iff w).1 h).le
    split
    · split
      · have := pivList_len w (min i.toNat k.toNat) (max i.toNat k.toNat)
        rw [nrm_len]; omega
      · simp
    · simp
  · simp
end Go.Proofs.Ytfijnlbkflmkbaa.Pure
