/- Plain laws: what the laws on webs do around the two sides: sizes, copies, comparisons. -/
import Derived.Test.YtnlhhbnoccobmaaFgS
import Derived.Test.YtnlhhbnoccobmaaPureD
namespace Go.Proofs.Ytnlhhbnoccobmaa.Pure
open Go.RowKit Go.Proofs.Ytnlhhbnoccobmaa.F Go.Proofs.YtnlhhbnoccobmaaW.PrintWords Go.Proofs.YtnlhhbnoccobmaaW.PrintLast
set_option linter.unusedVariables false
set_option linter.unusedSimpArgs false

theorem lrdRow (rows : List (List Int)) (a : Nat) : rd_L1 rows (a : Int) = rows.getD a [] := by unfold rd_L1; rw [Int.toNat_natCast]
/-- A list of lists that is not too large. -/
structure Small (L : List (List Int)) : Prop where
  len : L.length ≤ 1048576
  row : ∀ l ∈ L, l.length ≤ 1048576
theorem Small.at {L : List (List Int)} (h : Small L) (j : Nat) : (L.getD j []).length ≤ 1048576 := by
  rw [List.getD_eq_getElem?_getD]
  cases e : L[j]? with
  | none => simp
  | some l => exact h.row l (List.mem_of_getElem? e)
theorem toSS_ev {L : List (List Int)} (h : Small L) : Ev (fun k => laws_toInt64SS.f k L) L := by
  have hl := h.len
  have key : ∀ d n, n + d = L.length → Ev (fun k => laws_toInt64SS.l0 k L (L.take n ++ List.replicate d []) (n : Int)) L := by
    intro d
    induction d with
    | zero =>
      intro n hn
      rw [List.take_of_length_le (by omega), List.replicate_zero, List.append_nil]
      refine Ev_succ ?_
      simp only [laws_toInt64SS.l0]
      exact Ev.congr (fun k => if_neg (by omega)) (Ev.now _)
    | succ d ih =>
      intro n hn
      have htl : (L.take n).length = n := by rw [List.length_take]; omega
      refine Ev_succ ?_
      simp only [laws_toInt64SS.l0]
      refine Ev.congr (fun k => if_pos (by omega)) (Ev.congr (fun k => if_pos (by omega)) ?_)
      rw [lrdRow]
      refine Ev.bind (toS_ev _ (by have := h.at n; omega)) ?_
      refine Ev.congr (fun k => if_pos (by rw [List.length_append, htl, List.length_replicate]; omega)) ?_
      have := ih (n + 1) (by omega)
      rw [Int.toNat_natCast, wS (n := n) (by omega), List.set_append_right _ _ (by omega), htl, Nat.sub_self, List.replicate_succ, List.set_cons_zero]
      have ht : L.take (n + 1) = L.take n ++ [L.getD n []] := by
        rw [List.take_succ_eq_append_getElem (by omega), List.getD_eq_getElem?_getD, List.getElem?_eq_getElem (by omega)]; rfl
      rw [ht, List.append_assoc] at this
      exact this
  have := key L.length 0 (by omega)
  rw [List.take_zero, List.nil_append] at this
  unfold laws_toInt64SS.f
  refine Ev.congr (fun k => if_pos (by omega)) (Ev.congr (fun k => if_pos (by omega)) ?_)
  rw [Int.toNat_natCast]
  exact this
theorem eqSS_ev {a b : List (List Int)} (ha : Small a) : Ev (fun k => laws_eqInt64SS.f k a b) (decide (a = b)) := by
  have hl := ha.len
  unfold laws_eqInt64SS.f
  by_cases e : a.length = b.length
  · refine Ev.congr (fun k => if_pos (by omega)) ?_
    have key : ∀ d n, n + d = a.length → Ev (fun k => laws_eqInt64SS.l0 k a b (n : Int)) (decide (a.drop n = b.drop n)) := by
      intro d
      induction d with
      | zero =>
        intro n hn
        rw [List.drop_of_length_le (by omega), List.drop_of_length_le (by omega)]
        refine Ev_succ ?_
        simp only [laws_eqInt64SS.l0]
        exact Ev.congr (fun k => if_neg (by omega)) (Ev.now _)
      | succ d ih =>
        intro n hn
        have h1 : a.drop n = a.getD n [] :: a.drop (n + 1) := by rw [List.drop_eq_getElem_cons (by omega), List.getD_eq_getElem?_getD, List.getElem?_eq_getElem (by omega)]; rfl
        have h2 : b.drop n = b.getD n [] :: b.drop (n + 1) := by rw [List.drop_eq_getElem_cons (by omega), List.getD_eq_getElem?_getD, List.getElem?_eq_getElem (by omega)]; rfl
        refine Ev_succ ?_
        simp only [laws_eqInt64SS.l0]
        refine Ev.congr (fun k => if_pos (by omega)) (Ev.congr (fun k => if_pos (by omega)) (Ev.congr (fun k => if_pos (by omega)) ?_))
        rw [lrdRow, lrdRow]
        refine Ev.bind (eqS_ev _ _ (by have := ha.at n; omega)) ?_
        by_cases g : a.getD n [] = b.getD n []
        · refine Ev.congr (fun k => if_pos (decide_eq_true g)) ?_
          rw [wS (n := n) (by omega)]
          have := ih (n + 1) (by omega)
          have e2 : decide (a.drop n = b.drop n) = decide (a.drop (n + 1) = b.drop (n + 1)) := by
            rw [decide_eq_decide, h1, h2, g]
            exact ⟨fun h => (List.cons.inj h).2, fun h => by rw [h]⟩
          rw [e2]; exact this
        · refine Ev.congr (fun k => if_neg (by simpa using g)) ?_
          rw [decide_eq_false (fun h => g (by rw [h1, h2] at h; exact (List.cons.inj h).1))]
          exact Ev.now _
    have := key a.length 0 (by omega)
    rw [List.drop_zero, List.drop_zero] at this
    exact this
  · refine Ev.congr (fun k => if_neg (by omega)) ?_
    rw [decide_eq_false (fun h => e (by rw [h]))]
    exact Ev.now _
theorem szS_f (l : List Int) (x : Int) (hl : l.length ≤ maxLen) (h0 : 0 ≤ x) (h1 : x ≤ 1048576) : laws_szInt64S.f l x = some (if (l.length : Int) ≤ x then x - l.length else -1) := by
  unfold maxLen at hl
  unfold laws_szInt64S.f
  rw [show wrap64 (x - (l.length : Int)) = x - l.length from by unfold wrap64; omega]
  by_cases h : (l.length : Int) ≤ x
  · rw [if_neg (by omega), if_pos h]
  · rw [if_pos (by omega), if_neg h]
theorem szSS_ev (L : List (List Int)) (x : Int) (hl : L.length ≤ maxLen) (hr : ∀ l ∈ L, l.length ≤ maxLen) (h0 : 0 ≤ x) (h1 : x ≤ 1048576) : ∃ t, Ev (fun k => laws_szInt64SS.f k L x) t ∧ (0 ≤ t → Small L) ∧ t ≤ 1048576 := by
  unfold maxLen at hl
  unfold laws_szInt64SS.f
  rw [show wrap64 (x - (L.length : Int)) = x - L.length from by unfold wrap64; omega]
  by_cases h : (L.length : Int) ≤ x
  · have key : ∀ d n y, n + d = L.length → 0 ≤ y → y ≤ 1048576 → ∃ t, Ev (fun k => laws_szInt64SS.l0 k L y (n : Int)) t ∧ (0 ≤ t → ∀ l ∈ L.drop n, l.length ≤ 1048576) ∧ t ≤ 1048576 := by
      intro d
      induction d with
      | zero =>
        intro n y hn hy hy1
        refine ⟨y, ?_, fun _ => by rw [List.drop_of_length_le (by omega)]; simp, hy1⟩
        refine Ev_succ ?_
        simp only [laws_szInt64SS.l0]
        exact Ev.congr (fun k => if_neg (by omega)) (Ev.now _)
      | succ d ih =>
        intro n y hn hy hy1
        have hd : L.drop n = L.getD n [] :: L.drop (n + 1) := by rw [List.drop_eq_getElem_cons (by omega), List.getD_eq_getElem?_getD, List.getElem?_eq_getElem (by omega)]; rfl
        have hm : (L.getD n []).length ≤ maxLen := hr _ (by rw [List.getD_eq_getElem?_getD, List.getElem?_eq_getElem (by omega)]; exact List.getElem_mem _)
        have hs := szS_f (L.getD n []) y hm hy hy1
        by_cases g : ((L.getD n []).length : Int) ≤ y
        · obtain ⟨t, ht, hq, ht1⟩ := ih (n + 1) (y - (L.getD n []).length) (by omega) (by omega) (by omega)
          refine ⟨t, ?_, fun h0 l hl' => ?_, ht1⟩
          · refine Ev_succ ?_
            simp only [laws_szInt64SS.l0]
            refine Ev.congr (fun k => if_pos (by omega)) (Ev.congr (fun k => if_pos (by omega)) ?_)
            rw [lrdRow, hs, if_pos g]
            simp only [Option.bind_some]
            rw [wS (n := n) (by omega)]
            exact Ev.congr (fun k => if_neg (by omega)) ht
          · rw [hd] at hl'
            rcases List.mem_cons.1 hl' with q | q
            · rw [q]; omega
            · exact hq h0 l q
        · refine ⟨-1, ?_, fun h0 => absurd h0 (by omega), by omega⟩
          refine Ev_succ ?_
          simp only [laws_szInt64SS.l0]
          refine Ev.congr (fun k => if_pos (by omega)) (Ev.congr (fun k => if_pos (by omega)) ?_)
          rw [lrdRow, hs, if_neg g]
          simp only [Option.bind_some]
          exact Ev.congr (fun k => if_pos (by omega)) (Ev.now _)
    obtain ⟨t, ht, hq, ht1⟩ := key L.length 0 (x - L.length) (by omega) (by omega) (by omega)
    exact ⟨t, Ev.congr (fun k => if_neg (by omega)) ht, fun h0 => ⟨by omega, fun l hl' => hq h0 l (by rw [List.drop_zero]; exact hl')⟩, ht1⟩
  · exact ⟨-1, Ev.congr (fun k => if_pos (by omega)) (Ev.now _), fun h0 => absurd h0 (by omega), by omega⟩
theorem szWeb_ev (l : List Int) (L : List (List Int)) (hl : l.length ≤ maxLen) (hL : L.length ≤ maxLen) (hr : ∀ l ∈ L, l.length ≤ maxLen) : ∃ t, Ev (fun k => laws_szWeb.f k l L 1048576) t ∧ (0 ≤ t → l.length ≤ 1048576 ∧ Small L) := by
  unfold laws_szWeb.f
  rw [szS_f l 1048576 hl (by omega) (by omega)]
  simp only [Option.bind_some]
  by_cases h : (l.length : Int) ≤ 1048576
  · rw [if_pos h]
    obtain ⟨t, ht, hq, _⟩ := szSS_ev L (1048576 - l.length) hL hr (by omega) (by omega)
    by_cases g : t < 0
    · refine ⟨-1, ?_, fun h0 => absurd h0 (by omega)⟩
      refine Ev.congr (fun k => if_neg (by omega)) (Ev.bind ht ?_)
      exact Ev.congr (fun k => if_pos g) (Ev.now _)
    · refine ⟨t, ?_, fun h0 => ⟨by omega, hq h0⟩⟩
      refine Ev.congr (fun k => if_neg (by omega)) (Ev.bind ht ?_)
      exact Ev.congr (fun k => if_neg g) (Ev.now _)
  · rw [if_neg h]
    exact ⟨-1, Ev.congr (fun k => if_pos (by omega)) (Ev.now _), fun h0 => absurd h0 (by omega)⟩
theorem toWeb_ev {l : List Int} {L : List (List Int)} (hl : l.length ≤ 1048576) (hL : Small L) : Ev (fun k => laws_toWeb.f k l L) (l, L) := by
  unfold laws_toWeb.f
  exact Ev.bind (toS_ev l (by omega)) (Ev.bind (toSS_ev hL) (Ev.now _))
theorem eqWeb_ev {l m : List Int} {L M : List (List Int)} (hl : l.length ≤ 1048576) (hL : Small L) : Ev (fun k => laws_eqWeb.f k l L m M) (decide (l = m ∧ L = M)) := by
  unfold laws_eqWeb.f
  refine Ev.bind (eqS_ev l m (by omega)) ?_
  by_cases h : l = m
  · refine Ev.congr (fun k => if_pos (decide_eq_true h)) (Ev.bind (eqSS_ev hL) ?_)
    by_cases g : L = M
    · rw [decide_eq_true (show l = m ∧ L = M from ⟨h, g⟩)]
      exact Ev.congr (fun k => if_pos (decide_eq_true g)) (Ev.now _)
    · rw [decide_eq_false (show ¬ (l = m ∧ L = M) from fun q => g q.2)]
      exact Ev.congr (fun k => if_neg (by simpa using g)) (Ev.now _)
  · rw [decide_eq_false (show ¬ (l = m ∧ L = M) from fun q => h q.1)]
    exact Ev.congr (fun k => if_neg (by simpa using h)) (Ev.now _)
theorem eqWeb_same {l : List Int} {L : List (List Int)} (hl : l.length ≤ 1048576) (hL : Small L) : Ev (fun k => laws_eqWeb.f k l L l L) true := by
  have := eqWeb_ev (m := l) (M := L) hl hL
  rwa [decide_eq_true (show l = l ∧ L = L from ⟨rfl, rfl⟩)] at this
end Go.Proofs.Ytnlhhbnoccobmaa.Pure
