/- Plain laws about lists and words: what the printed functions that look at words come to. -/
import Derived.Test.YtnlhhbnoccobmaaFgA
namespace Go.Proofs.Ytnlhhbnoccobmaa.Pure
open Go.RowKit Go.Proofs.Ytnlhhbnoccobmaa.F Go.Proofs.YtnlhhbnoccobmaaW.PrintWords Go.Proofs.YtnlhhbnoccobmaaW.PrintLast

theorem wS {n : Nat} (h : n < 4611686018427387904) : wrap64 ((n : Int) + 1) = ((n + 1 : Nat) : Int) := by unfold wrap64; omega
theorem rdN (l : List Int) (n : Nat) : rd l (n : Int) = l.getD n 0 := by unfold rd; rw [Int.toNat_natCast]
theorem drop_cons {l : List Int} {n : Nat} (h : n < l.length) : l.drop n = l.getD n 0 :: l.drop (n + 1) := by
  rw [List.drop_eq_getElem_cons h, List.getD_eq_getElem?_getD, List.getElem?_eq_getElem h]; rfl
theorem take_snoc {l : List Int} {n : Nat} (h : n < l.length) : l.take (n + 1) = l.take n ++ [l.getD n 0] := by
  rw [List.take_succ_eq_append_getElem h, List.getD_eq_getElem?_getD, List.getElem?_eq_getElem h]; rfl
theorem getD_mem {l : List Int} {n : Nat} (h : n < l.length) : l.getD n 0 ∈ l := by
  rw [List.getD_eq_getElem?_getD, List.getElem?_eq_getElem h]; exact List.getElem_mem h

/-! ### two lists compared -/
theorem eqS_l0 (a b : List Int) (hl : a.length = b.length) (hb : a.length < 4611686018427387904) : ∀ d n, n + d = a.length → Ev (fun k => laws_eqInt64S.l0 k a b (n : Int)) (decide (a.drop n = b.drop n)) := by
  intro d
  induction d with
  | zero =>
    intro n hn
    rw [List.drop_of_length_le (by omega), List.drop_of_length_le (by omega)]
    refine Ev.step (f := fun _ => some _) (fun k => ?_) (Ev.now _)
    simp only [laws_eqInt64S.l0]; rw [if_neg (by omega)]; rfl
  | succ d ih =>
    intro n hn
    rw [drop_cons (l := a) (by omega), drop_cons (l := b) (by omega)]
    by_cases e : a.getD n 0 = b.getD n 0
    · refine Ev.step (f := fun k => laws_eqInt64S.l0 k a b ((n + 1 : Nat) : Int)) (fun k => ?_) ?_
      · simp only [laws_eqInt64S.l0]; rw [if_pos (by omega), if_pos (by omega), if_pos (by omega), rdN, rdN, if_pos e, wS (by omega)]
      · rw [e, show (decide (b.getD n 0 :: a.drop (n + 1) = b.getD n 0 :: b.drop (n + 1))) = decide (a.drop (n + 1) = b.drop (n + 1)) from by simp]
        exact ih (n + 1) (by omega)
    · refine Ev.step (f := fun _ => some false) (fun k => ?_) ?_
      · simp only [laws_eqInt64S.l0]; rw [if_pos (by omega), if_pos (by omega), if_pos (by omega), rdN, rdN, if_neg e]
      · rw [show (decide (a.getD n 0 :: a.drop (n + 1) = b.getD n 0 :: b.drop (n + 1))) = false from decide_eq_false fun h => e (List.cons.inj h).1]
        exact Ev.now _
theorem eqS_ev (a b : List Int) (hb : a.length < 4611686018427387904) : Ev (fun k => laws_eqInt64S.f k a b) (decide (a = b)) := by
  by_cases hl : a.length = b.length
  · refine Ev.congr (f := fun k => laws_eqInt64S.l0 k a b ((0 : Nat) : Int)) (fun k => ?_) ?_
    · unfold laws_eqInt64S.f; rw [if_pos (by omega)]; rfl
    · exact eqS_l0 a b hl hb a.length 0 (by omega)
  · refine Ev.congr (f := fun _ => some false) (fun k => ?_) ?_
    · unfold laws_eqInt64S.f; rw [if_neg (by omega)]
    · rw [decide_eq_false fun h => hl (by rw [h])]; exact Ev.now _
theorem same_l0 (a b : List Int) (hl : a.length = b.length) (hb : a.length < 4611686018427387904) : ∀ d n, n + d = a.length → Ev (fun k => spec_l01Same.l0 k a b (n : Int)) (decide (a.drop n = b.drop n)) := by
  intro d
  induction d with
  | zero =>
    intro n hn
    rw [List.drop_of_length_le (by omega), List.drop_of_length_le (by omega)]
    refine Ev.step (f := fun _ => some _) (fun k => ?_) (Ev.now _)
    simp only [spec_l01Same.l0]; rw [if_neg (by omega)]; rfl
  | succ d ih =>
    intro n hn
    rw [drop_cons (l := a) (by omega), drop_cons (l := b) (by omega)]
    by_cases e : a.getD n 0 = b.getD n 0
    · refine Ev.step (f := fun k => spec_l01Same.l0 k a b ((n + 1 : Nat) : Int)) (fun k => ?_) ?_
      · simp only [spec_l01Same.l0]; rw [if_pos (by omega), if_pos (by omega), if_pos (by omega), rdN, rdN, if_pos e, wS (by omega)]
      · rw [e, show (decide (b.getD n 0 :: a.drop (n + 1) = b.getD n 0 :: b.drop (n + 1))) = decide (a.drop (n + 1) = b.drop (n + 1)) from by simp]
        exact ih (n + 1) (by omega)
    · refine Ev.step (f := fun _ => some false) (fun k => ?_) ?_
      · simp only [spec_l01Same.l0]; rw [if_pos (by omega), if_pos (by omega), if_pos (by omega), rdN, rdN, if_neg e]
      · rw [show (decide (a.getD n 0 :: a.drop (n + 1) = b.getD n 0 :: b.drop (n + 1))) = false from decide_eq_false fun h => e (List.cons.inj h).1]
        exact Ev.now _
theorem same_ev (a b : List Int) (hb : a.length < 4611686018427387904) : Ev (fun k => spec_l01Same.f k a b) (decide (a = b)) := by
  by_cases hl : a.length = b.length
  · refine Ev.congr (f := fun k => spec_l01Same.l0 k a b ((0 : Nat) : Int)) (fun k => ?_) ?_
    · unfold spec_l01Same.f; rw [if_pos (by omega)]; rfl
    · exact same_l0 a b hl hb a.length 0 (by omega)
  · refine Ev.congr (f := fun _ => some false) (fun k => ?_) ?_
    · unfold spec_l01Same.f; rw [if_neg (by omega)]
    · rw [decide_eq_false fun h => hl (by rw [h])]; exact Ev.now _
theorem equal_l0 (a b : List Int) (hl : a.length = b.length) (hb : a.length < 4611686018427387904) : ∀ d n, n + d = a.length → Ev (fun k => slices_Equal_int64_int64.l0 k a b (a.length : Int) (n : Int)) (decide (a.drop n = b.drop n)) := by
  intro d
  induction d with
  | zero =>
    intro n hn
    rw [List.drop_of_length_le (by omega), List.drop_of_length_le (by omega)]
    refine Ev.step (f := fun _ => some _) (fun k => ?_) (Ev.now _)
    simp only [slices_Equal_int64_int64.l0]; rw [if_neg (by omega)]; rfl
  | succ d ih =>
    intro n hn
    rw [drop_cons (l := a) (by omega), drop_cons (l := b) (by omega)]
    by_cases e : a.getD n 0 = b.getD n 0
    · refine Ev.step (f := fun k => slices_Equal_int64_int64.l0 k a b (a.length : Int) ((n + 1 : Nat) : Int)) (fun k => ?_) ?_
      · simp only [slices_Equal_int64_int64.l0]; rw [if_pos (by omega), if_pos (by omega), if_pos (by omega), if_pos (by omega), rdN, rdN, if_pos e, wS (by omega)]
      · rw [e, show (decide (b.getD n 0 :: a.drop (n + 1) = b.getD n 0 :: b.drop (n + 1))) = decide (a.drop (n + 1) = b.drop (n + 1)) from by simp]
        exact ih (n + 1) (by omega)
    · refine Ev.step (f := fun _ => some false) (fun k => ?_) ?_
      · simp only [slices_Equal_int64_int64.l0]; rw [if_pos (by omega), if_pos (by omega), if_pos (by omega), if_pos (by omega), rdN, rdN, if_neg e]
      · rw [show (decide (a.getD n 0 :: a.drop (n + 1) = b.getD n 0 :: b.drop (n + 1))) = false from decide_eq_false fun h => e (List.cons.inj h).1]
        exact Ev.now _
theorem equal_ev (a b : List Int) (hb : a.length < 4611686018427387904) : Ev (fun k => slices_Equal_int64_int64.f k a b) (decide (a = b)) := by
  by_cases hl : a.length = b.length
  · refine Ev.congr (f := fun k => slices_Equal_int64_int64.l0 k a b (a.length : Int) ((0 : Nat) : Int)) (fun k => ?_) ?_
    · unfold slices_Equal_int64_int64.f; rw [if_pos (by omega)]; rfl
    · exact equal_l0 a b hl hb a.length 0 (by omega)
  · refine Ev.congr (f := fun _ => some false) (fun k => ?_) ?_
    · unfold slices_Equal_int64_int64.f; rw [if_neg (by omega)]
    · rw [decide_eq_false fun h => hl (by rw [h])]; exact Ev.now _

/-! ### a copy -/
theorem toS_l0 (a : List Int) (hb : a.length < 4611686018427387904) : ∀ d n, n + d = a.length → Ev (fun k => laws_toInt64S.l0 k a (a.take n ++ List.replicate d 0) (n : Int)) a := by
  intro d
  induction d with
  | zero =>
    intro n hn
    refine Ev.step (f := fun _ => some a) (fun k => ?_) (Ev.now _)
    simp only [laws_toInt64S.l0]; rw [if_neg (by omega), List.take_of_length_le (by omega)]; simp
  | succ d ih =>
    intro n hn
    refine Ev.step (f := fun k => laws_toInt64S.l0 k a (a.take (n + 1) ++ List.replicate d 0) ((n + 1 : Nat) : Int)) (fun k => ?_) (ih (n + 1) (by omega))
    have hlen : (a.take n ++ List.replicate (d + 1) 0).length = a.length := by simp; omega
    simp only [laws_toInt64S.l0]
    rw [if_pos (by omega), if_pos (by omega), if_pos (by rw [hlen]; omega), rdN, wS (by omega), Int.toNat_natCast, take_snoc (by omega)]
    congr 1
    rw [List.set_append_right _ _ (List.length_take_le _ _), List.replicate_succ]
    have : n - (a.take n).length = 0 := by simp; omega
    rw [this, List.set_cons_zero]; simp
theorem toS_ev (a : List Int) (hb : a.length ≤ 35184372088832) : Ev (fun k => laws_toInt64S.f k a) a := by
  refine Ev.congr (f := fun k => laws_toInt64S.l0 k a (a.take 0 ++ List.replicate a.length 0) ((0 : Nat) : Int)) (fun k => ?_) (toS_l0 a (by omega) a.length 0 (by omega))
  unfold laws_toInt64S.f; rw [if_pos (by omega), Int.toNat_natCast, if_pos hb]; simp

/-! ### each number twice; the normal word -/
theorem twice_l1 (l : List Int) (n : Nat) (hn : n < l.length) (hb : l.length < 4611686018427387904) (r : Bool)
    (hr : Ev (fun k => if ((l.count (l.getD n 0) : Nat) : Int) = 2 then spec_l01Twice.l0 k l ((n + 1 : Nat) : Int) else some false) r) :
    ∀ d m c, m + d = l.length → c + (l.drop m).count (l.getD n 0) = l.count (l.getD n 0) → Ev (fun k => spec_l01Twice.l1 k l (n : Int) (c : Int) (m : Int)) r := by
  intro d
  induction d with
  | zero =>
    intro m c hm hc
    rw [List.drop_of_length_le (by omega), List.count_nil, Nat.add_zero] at hc
    refine Ev.step (fun k => ?_) hr
    simp only [spec_l01Twice.l1]; rw [if_neg (by omega), wS (by omega), hc]
  | succ d ih =>
    intro m c hm hc
    rw [drop_cons (l := l) (by omega), List.count_cons] at hc
    have hle := List.count_le_length (a := l.getD n 0) (l := l)
    by_cases e : l.getD m 0 = l.getD n 0
    · rw [e, if_pos (BEq.rfl)] at hc
      refine Ev.step (fun k => ?_) (ih (m + 1) (c + 1) (by omega) (by omega))
      simp only [spec_l01Twice.l1]; rw [if_pos (by omega), if_pos (by omega), if_pos (by omega), if_pos (by omega), rdN, rdN, if_pos e, wS (by omega), wS (by omega)]
    · rw [if_neg (by simpa using e)] at hc
      refine Ev.step (fun k => ?_) (ih (m + 1) c (by omega) (by omega))
      simp only [spec_l01Twice.l1]; rw [if_pos (by omega), if_pos (by omega), if_pos (by omega), if_pos (by omega), rdN, rdN, if_neg e, wS (by omega)]
theorem twice_l0 (l : List Int) (hb : l.length < 4611686018427387904) : ∀ d n, n + d = l.length → Ev (fun k => spec_l01Twice.l0 k l (n : Int)) ((l.drop n).all fun x => l.count x == 2) := by
  intro d
  induction d with
  | zero =>
    intro n hn
    rw [List.drop_of_length_le (by omega)]
    refine Ev.step (f := fun _ => some true) (fun k => ?_) (Ev.now _)
    simp only [spec_l01Twice.l0]; rw [if_neg (by omega)]
  | succ d ih =>
    intro n hn
    rw [drop_cons (l := l) (by omega), List.all_cons]
    refine Ev.step (f := fun k => spec_l01Twice.l1 k l (n : Int) ((0 : Nat) : Int) ((0 : Nat) : Int)) (fun k => ?_) ?_
    · simp only [spec_l01Twice.l0]; rw [if_pos (by omega)]; rfl
    · refine twice_l1 l n (by omega) hb _ ?_ l.length 0 0 (by omega) (by simp)
      by_cases e : l.count (l.getD n 0) = 2
      · refine Ev.congr (fun k => if_pos (by omega)) ?_
        rw [e]; simp only [BEq.rfl, Bool.true_and]
        exact ih (n + 1) (by omega)
      · refine Ev.congr (fun k => if_neg (by omega)) ?_
        rw [show (l.count (l.getD n 0) == 2) = false from by simpa using e, Bool.false_and]
        exact Ev.now _
theorem twice_ev (l : List Int) (hb : l.length < 4611686018427387904) : Ev (fun k => spec_l01Twice.f k l) (l.all fun x => l.count x == 2) :=
  Ev.congr (f := fun k => spec_l01Twice.l0 k l ((0 : Nat) : Int)) (fun _ => rfl) (twice_l0 l hb l.length 0 (by omega))

theorem snocInd {P : List Int → Prop} (h0 : P []) (h1 : ∀ l x, P l → P (l ++ [x])) : ∀ l, P l := by
  intro l
  suffices h : ∀ n, ∀ l : List Int, l.length = n → P l from h _ l rfl
  intro n
  induction n with
  | zero => intro l hl; rw [List.length_eq_zero_iff.1 hl]; exact h0
  | succ n ih =>
    intro l hl
    have hne : l ≠ [] := fun h => by rw [h] at hl; exact absurd hl (by simp)
    rw [← List.dropLast_concat_getLast hne]
    exact h1 _ _ (ih _ (by rw [List.length_dropLast]; omega))
theorem mets_nodup (l : List Int) : (mets l).Nodup := by
  refine snocInd (P := fun l => (mets l).Nodup) ?_ ?_ l
  · rw [mets_nil]; exact List.nodup_nil
  · intro l x h
    rw [mets_snoc]
    split
    · exact h
    · rename_i hx
      rw [List.nodup_append]
      exact ⟨h, List.nodup_cons.2 ⟨by simp, List.nodup_nil⟩, fun a ha b hb => by
        rw [List.mem_singleton] at hb; subst hb; intro e; subst e; exact hx (List.contains_iff_mem.2 ha)⟩
theorem idxOf_getD {m : List Int} (hd : m.Nodup) {j : Nat} (hj : j < m.length) : m.idxOf (m.getD j 0) = j := by
  rw [List.getD_eq_getElem?_getD, List.getElem?_eq_getElem hj]
  exact hd.idxOf_getElem j hj
theorem normal_l1 (l met out : List Int) (n : Nat) (hn : n < l.length) (hd : met.Nodup) (hm : met.length < 4611686018427387904) (r : List Int)
    (hr : Ev (fun k => if met.contains (l.getD n 0) then (if out.length < 17592186044416 then spec_l01Normal.l0 k l met (out ++ [(met.idxOf (l.getD n 0) : Int)]) (wrap64 ((n : Int) + 1)) else none)
      else (if met.length < 17592186044416 then (if out.length < 17592186044416 then spec_l01Normal.l0 k l (met ++ [l.getD n 0]) (out ++ [(met.length : Int)]) (wrap64 ((n : Int) + 1)) else none) else none)) r) :
    ∀ d m, m + d = met.length → Ev (fun k => spec_l01Normal.l1 k l met out (n : Int) (if (met.take m).contains (l.getD n 0) then (met.idxOf (l.getD n 0) : Int) else -1) (m : Int)) r := by
  intro d
  induction d with
  | zero =>
    intro m hmm
    refine Ev.step (fun k => ?_) hr
    simp only [spec_l01Normal.l1]
    rw [if_neg (by omega), List.take_of_length_le (by omega)]
    by_cases hc : met.contains (l.getD n 0) = true
    · rw [if_pos hc, if_pos hc, if_neg (by omega)]
    · rw [if_neg hc, if_neg hc, if_pos (by omega), if_pos (by omega), if_pos (by omega), rdN]
  | succ d ih =>
    intro m hmm
    refine Ev.step (fun k => ?_) (ih (m + 1) (by omega))
    have ht : (met.take (m + 1)).contains (l.getD n 0) = ((met.take m).contains (l.getD n 0) || (met.getD m 0 == l.getD n 0)) := by
      rw [take_snoc (by omega)]
      generalize met.getD m 0 = u
      generalize l.getD n 0 = v
      rw [Bool.eq_iff_iff]
      simp only [List.contains_iff_mem, List.mem_append, List.mem_singleton, Bool.or_eq_true, beq_iff_eq]
      exact or_congr Iff.rfl eq_comm
    simp only [spec_l01Normal.l1]
    rw [if_pos (by omega), if_pos (by omega), if_pos (by omega), if_pos (by omega), rdN, rdN, wS (by omega), ht]
    by_cases e : met.getD m 0 = l.getD n 0
    · rw [if_pos e, ← e, idxOf_getD hd (by omega)]; simp
    · rw [if_neg e, show (met.getD m 0 == l.getD n 0) = false from by simpa using e, Bool.or_false]
theorem normal_l0 (l : List Int) (hb : l.length < 17592186044416) : ∀ d n, n + d = l.length → Ev (fun k => spec_l01Normal.l0 k l (mets (l.take n)) (nrm (l.take n)) (n : Int)) (nrm l) := by
  intro d
  induction d with
  | zero =>
    intro n hn
    refine Ev.step (f := fun _ => some (nrm l)) (fun k => ?_) (Ev.now _)
    simp only [spec_l01Normal.l0]; rw [if_neg (by omega), List.take_of_length_le (by omega)]
  | succ d ih =>
    intro n hn
    have h1 := mets_le (l.take n)
    have h2 := nrm_len (l.take n)
    have h3 : (l.take n).length ≤ l.length := List.length_take_le' _ _
    refine Ev.step (f := fun k => spec_l01Normal.l1 k l (mets (l.take n)) (nrm (l.take n)) (n : Int) (if ((mets (l.take n)).take 0).contains (l.getD n 0) then ((mets (l.take n)).idxOf (l.getD n 0) : Int) else -1) ((0 : Nat) : Int)) (fun k => ?_) ?_
    · simp only [spec_l01Normal.l0]; rw [if_pos (by omega)]; simp
    · refine normal_l1 l _ _ n (by omega) (mets_nodup _) (by omega) _ ?_ (mets (l.take n)).length 0 (by omega)
      have hi := ih (n + 1) (by omega)
      rw [take_snoc (by omega), mets_snoc, nrm_snoc] at hi
      by_cases hc : (mets (l.take n)).contains (l.getD n 0) = true
      · rw [if_pos hc, if_pos hc] at hi
        refine Ev.congr (fun k => ?_) hi
        rw [if_pos hc, if_pos (by omega), wS (by omega)]
      · rw [if_neg hc, if_neg hc] at hi
        refine Ev.congr (fun k => ?_) hi
        rw [if_neg hc, if_pos (by omega), if_pos (by omega), wS (by omega)]
theorem normal_ev (l : List Int) (hb : l.length < 17592186044416) : Ev (fun k => spec_l01Normal.f k l) (nrm l) :=
  Ev.congr (f := fun k => spec_l01Normal.l0 k l (mets (l.take 0)) (nrm (l.take 0)) ((0 : Nat) : Int)) (fun _ => rfl) (normal_l0 l hb l.length 0 (by omega))

/-! ### words -/
def tw (l : List Int) : Bool := l.all fun x => l.count x == 2
def isW (l : List Int) : Bool := decide (l.length ≤ 12) && tw l && decide (nrm l = l)
theorem is_ev (l : List Int) : Ev (fun k => spec_l01Is.f k l) (isW l) := by
  unfold spec_l01Is.f isW
  by_cases hl : l.length ≤ 12
  · refine Ev.congr (fun k => if_pos (by omega)) ?_
    rw [decide_eq_true hl, Bool.true_and]
    refine Ev.bind (twice_ev l (by omega)) ?_
    show Ev _ (tw l && _)
    cases ht : tw l with
    | false => exact Ev.congr (fun k => if_neg (by unfold tw at ht; rw [ht]; simp)) (Ev.now _)
    | true =>
      refine Ev.congr (fun k => if_pos (by unfold tw at ht; rw [ht])) ?_
      rw [Bool.true_and]
      refine Ev.bind (normal_ev l (by omega)) ?_
      have hn := nrm_len l
      exact Ev.bind (same_ev (nrm l) l (by omega)) (Ev.now _)
  · refine Ev.congr (fun k => if_neg (by omega)) ?_
    rw [decide_eq_false hl, Bool.false_and, Bool.false_and]
    exact Ev.now _
theorem okL_of {l : List Int} (hl : l.length * 8 ≤ 140737488351232) (hw : ∀ x ∈ l, (Lit.int .i64 x).wf = true) : okL l = true := by
  unfold okL
  simp only [Bool.and_eq_true, decide_eq_true_eq, List.all_eq_true]
  exact ⟨hl, hw⟩
theorem isWord_ev (l : List Int) (hw : ∀ x ∈ l, (Lit.int .i64 x).wf = true) : Ev (fun k => impl_IsWord.f k l) (isW l) := by
  unfold impl_IsWord.f isW
  by_cases hl : l.length ≤ 12
  · refine Ev.congr (fun k => if_pos (by omega)) ?_
    have hok : okL l = true := okL_of (by omega) hw
    rw [decide_eq_true hl, Bool.true_and]
    refine Ev.bind (a := tw l) (Ev.congr (fun _ => by unfold impl_twice.f; rw [if_pos hok]; rfl) (Ev.now _)) ?_
    cases ht : tw l with
    | false => exact Ev.congr (fun k => if_neg (by simp)) (Ev.now _)
    | true =>
      refine Ev.congr (fun k => if_pos rfl) ?_
      rw [Bool.true_and]
      refine Ev.bind (a := nrm l) (Ev.congr (fun _ => by unfold impl_normal.f; rw [if_pos hok]) (Ev.now _)) ?_
      have hn := nrm_len l
      exact Ev.bind (equal_ev (nrm l) l (by omega)) (Ev.now _)
  · refine Ev.congr (fun k => if_neg (by omega)) ?_
    rw [decide_eq_false hl, Bool.false_and, Bool.false_and]
    exact Ev.now _
theorem in_f (a b c : Int) : impl_in.f a b c = some (decide (b ≤ a ∧ a ≤ c)) := by
  unfold impl_in.f
  by_cases h : a ≥ b
  · rw [if_pos h]; simp [h]
  · rw [if_neg h]; simp [h]
theorem spec_in_f (a b c : Int) : spec_l01In.f a b c = some (decide (b ≤ a ∧ a ≤ c)) := by
  unfold spec_l01In.f
  by_cases h : a ≥ b
  · rw [if_pos h]; simp [h]
  · rw [if_neg h]; simp [h]
end Go.Proofs.Ytnlhhbnoccobmaa.Pure
