/- Words, walks and plain laws that the row of the law FnExactIsDesk uses. -/
import Derived.Test.YtmeggliapebkgaaZFnExactIsDesk4
import Derived.Maps.OwnRows
import Derived.Maps.AppendAt
import Derived.Maps.GroupsBeside
import Derived.Deep.RegionLaw
import Derived.Deep.RegionLawGrows
import Derived.WalkSpells
import Derived.BigQuiet
import Derived.Maps.RangeWalk
import Derived.Deep.RegionWith
section
namespace Go.Proofs.Ytmeggliapebkgaa.Pure
open Go.RowKit Go.Proofs.Ytmeggliapebkgaa.F Go.Proofs.YtmeggliapebkgaaW.PrintWords Go.Proofs.YtmeggliapebkgaaW.PrintLast
theorem wS {n : Nat} (h : n < 4611686018427387904) : wrap64 ((n : Int) + 1) = ((n + 1 : Nat) : Int) := by unfold wrap64; omega
theorem rdN (l : List Int) (n : Nat) : rd l (n : Int) = l.getD n 0 := by unfold rd; rw [Int.toNat_natCast]
theorem drop_cons {l : List Int} {n : Nat} (h : n < l.length) : l.drop n = l.getD n 0 :: l.drop (n + 1) := by
  rw [List.drop_eq_getElem_cons h, List.getD_eq_getElem?_getD, List.getElem?_eq_getElem h]; rfl
theorem take_snoc {l : List Int} {n : Nat} (h : n < l.length) : l.take (n + 1) = l.take n ++ [l.getD n 0] := by
  rw [List.take_succ_eq_append_getElem h, List.getD_eq_getElem?_getD, List.getElem?_eq_getElem h]; rfl
theorem eqS_l0 (a b : List Int) (hl : a.length = b.length) (hb : a.length < 4611686018427387904) : ∀ d n, n + d = a.length → Ev (fun k => laws_eqInt64S.l0 k a b (n : Int)) (decide (a.drop n = b.drop n)) := by
  intro d
  induction d with
  | zero =>
    intro n hn
    rw [List.drop_of_length_le (by omega), List.drop_of_length_le (by omega)]
    refine Ev.step (f := fun _ => some _) (fun k => ?_) (Ev.now _)
    simp only [laws_eqInt64S.l0]; rw [if_neg (by omega)]; rfl
  | succ d ih =>
    intro n hn
    rw [drop_cons (l := a) (by omega), drop_cons (l := b) (by omega)]
    by_cases e : a.getD n 0 = b.getD n 0
    · refine Ev.step (f := fun k => laws_eqInt64S.l0 k a b ((n + 1 : Nat) : Int)) (fun k => ?_) ?_
      · simp only [laws_eqInt64S.l0]; rw [if_pos (by omega), if_pos (by omega), if_pos (by omega), rdN, rdN, if_pos e, wS (by omega)]
      · rw [e, show (decide (b.getD n 0 :: a.drop (n + 1) = b.getD n 0 :: b.drop (n + 1))) = decide (a.drop (n + 1) = b.drop (n + 1)) from by simp]
        exact ih (n + 1) (by omega)
    · refine Ev.step (f := fun _ => some false) (fun k => ?_) ?_
      · simp only [laws_eqInt64S.l0]; rw [if_pos (by omega), if_pos (by omega), if_pos (by omega), rdN, rdN, if_neg e]
      · rw [show (decide (a.getD n 0 :: a.drop (n + 1) = b.getD n 0 :: b.drop (n + 1))) = false from decide_eq_false fun h => e (List.cons.inj h).1]
        exact Ev.now _
theorem eqS_ev (a b : List Int) (hb : a.length < 4611686018427387904) : Ev (fun k => laws_eqInt64S.f k a b) (decide (a = b)) := by
  by_cases hl : a.length = b.length
  · refine Ev.congr (f := fun k => laws_eqInt64S.l0 k a b ((0 : Nat) : Int)) (fun k => ?_) ?_
    · unfold laws_eqInt64S.f; rw [if_pos (by omega)]; rfl
    · exact eqS_l0 a b hl hb a.length 0 (by omega)
  · refine Ev.congr (f := fun _ => some false) (fun k => ?_) ?_
    · unfold laws_eqInt64S.f; rw [if_neg (by omega)]
    · rw [decide_eq_false fun h => hl (by rw [h])]; exact Ev.now _
theorem same_l0 (a b : List Int) (hl : a.length = b.length) (hb : a.length < 4611686018427387904) : ∀ d n, n + d = a.length → Ev (fun k => spec_l01Same.l0 k a b (n : Int)) (decide (a.drop n = b.drop n)) := by
  intro d
  induction d with
  | zero =>
    intro n hn
    rw [List.drop_of_length_le (by omega), List.drop_of_length_le (by omega)]
    refine Ev.step (f := fun _ => some _) (fun k => ?_) (Ev.now _)
    simp only [spec_l01Same.l0]; rw [if_neg (by omega)]; rfl
  | succ d ih =>
    intro n hn
    rw [drop_cons (l := a) (by omega), drop_cons (l := b) (by omega)]
    by_cases e : a.getD n 0 = b.getD n 0
    · refine Ev.step (f := fun k => spec_l01Same.l0 k a b ((n + 1 : Nat) : Int)) (fun k => ?_) ?_
      · simp only [spec_l01Same.l0]; rw [if_pos (by omega), if_pos (by omega), if_pos (by omega), rdN, rdN, if_pos e, wS (by omega)]
      · rw [e, show (decide (b.getD n 0 :: a.drop (n + 1) = b.getD n 0 :: b.drop (n + 1))) = decide (a.drop (n + 1) = b.drop (n + 1)) from by simp]
        exact ih (n + 1) (by omega)
    · refine Ev.step (f := fun _ => some false) (fun k => ?_) ?_
      · simp only [spec_l01Same.l0]; rw [if_pos (by omega), if_pos (by omega), if_pos (by omega), rdN, rdN, if_neg e]
      · rw [show (decide (a.getD n 0 :: a.drop (n + 1) = b.getD n 0 :: b.drop (n + 1))) = false from decide_eq_false fun h => e (List.cons.inj h).1]
        exact Ev.now _
theorem same_ev (a b : List Int) (hb : a.length < 4611686018427387904) : Ev (fun k => spec_l01Same.f k a b) (decide (a = b)) := by
  by_cases hl : a.length = b.length
  · refine Ev.congr (f := fun k => spec_l01Same.l0 k a b ((0 : Nat) : Int)) (fun k => ?_) ?_
    · unfold spec_l01Same.f; rw [if_pos (by omega)]; rfl
    · exact same_l0 a b hl hb a.length 0 (by omega)
  · refine Ev.congr (f := fun _ => some false) (fun k => ?_) ?_
    · unfold spec_l01Same.f; rw [if_neg (by omega)]
    · rw [decide_eq_false fun h => hl (by rw [h])]; exact Ev.now _
theorem equal_l0 (a b : List Int) (hl : a.length = b.length) (hb : a.length < 4611686018427387904) : ∀ d n, n + d = a.length → Ev (fun k => slices_Equal_int64_int64.l0 k a b (a.length : Int) (n : Int)) (decide (a.drop n = b.drop n)) := by
  intro d
  induction d with
  | zero =>
    intro n hn
    rw [List.drop_of_length_le (by omega), List.drop_of_length_le (by omega)]
    refine Ev.step (f := fun _ => some _) (fun k => ?_) (Ev.now _)
    simp only [slices_Equal_int64_int64.l0]; rw [if_neg (by omega)]; rfl
  | succ d ih =>
    intro n hn
    rw [drop_cons (l := a) (by omega), drop_cons (l := b) (by omega)]
    by_cases e : a.getD n 0 = b.getD n 0
    · refine Ev.step (f := fun k => slices_Equal_int64_int64.l0 k a b (a.length : Int) ((n + 1 : Nat) : Int)) (fun k => ?_) ?_
      · simp only [slices_Equal_int64_int64.l0]; rw [if_pos (by omega), if_pos (by omega), if_pos (by omega), if_pos (by omega), rdN, rdN, if_pos e, wS (by omega)]
      · rw [e, show (decide (b.getD n 0 :: a.drop (n + 1) = b.getD n 0 :: b.drop (n + 1))) = decide (a.drop (n + 1) = b.drop (n + 1)) from by simp]
        exact ih (n + 1) (by omega)
    · refine Ev.step (f := fun _ => some false) (fun k => ?_) ?_
      · simp only [slices_Equal_int64_int64.l0]; rw [if_pos (by omega), if_pos (by omega), if_pos (by omega), if_pos (by omega), rdN, rdN, if_neg e]
      · rw [show (decide (a.getD n 0 :: a.drop (n + 1) = b.getD n 0 :: b.drop (n + 1))) = false from decide_eq_false fun h => e (List.cons.inj h).1]
        exact Ev.now _
theorem equal_ev (a b : List Int) (hb : a.length < 4611686018427387904) : Ev (fun k => slices_Equal_int64_int64.f k a b) (decide (a = b)) := by
  by_cases hl : a.length = b.length
  · refine Ev.congr (f := fun k => slices_Equal_int64_int64.l0 k a b (a.length : Int) ((0 : Nat) : Int)) (fun k => ?_) ?_
    · unfold slices_Equal_int64_int64.f; rw [if_pos (by omega)]; rfl
    · exact equal_l0 a b hl hb a.length 0 (by omega)
  · refine Ev.congr (f := fun _ => some false) (fun k => ?_) ?_
    · unfold slices_Equal_int64_int64.f; rw [if_neg (by omega)]
    · rw [decide_eq_false fun h => hl (by rw [h])]; exact Ev.now _
theorem toS_l0 (a : List Int) (hb : a.length < 4611686018427387904) : ∀ d n, n + d = a.length → Ev (fun k => laws_toInt64S.l0 k a (a.take n ++ List.replicate d 0) (n : Int)) a := by
  intro d
  induction d with
  | zero =>
    intro n hn
    refine Ev.step (f := fun _ => some a) (fun k => ?_) (Ev.now _)
    simp only [laws_toInt64S.l0]; rw [if_neg (by omega), List.take_of_length_le (by omega)]; simp
  | succ d ih =>
    intro n hn
    refine Ev.step (f := fun k => laws_toInt64S.l0 k a (a.take (n + 1) ++ List.replicate d 0) ((n + 1 : Nat) : Int)) (fun k => ?_) (ih (n + 1) (by omega))
    have hlen : (a.take n ++ List.replicate (d + 1) 0).length = a.length := by simp; omega
    simp only [laws_toInt64S.l0]
    rw [if_pos (by omega), if_pos (by omega), if_pos (by rw [hlen]; omega), rdN, wS (by omega), Int.toNat_natCast, take_snoc (by omega)]
    congr 1
    rw [List.set_append_right _ _ (List.length_take_le _ _), List.replicate_succ]
    have : n - (a.take n).length = 0 := by simp; omega
    rw [this, List.set_cons_zero]; simp
theorem toS_ev (a : List Int) (hb : a.length ≤ 35184372088832) : Ev (fun k => laws_toInt64S.f k a) a := by
  refine Ev.congr (f := fun k => laws_toInt64S.l0 k a (a.take 0 ++ List.replicate a.length 0) ((0 : Nat) : Int)) (fun k => ?_) (toS_l0 a (by omega) a.length 0 (by omega))
  unfold laws_toInt64S.f; rw [if_pos (by omega), Int.toNat_natCast, if_pos hb]; simp
theorem twice_l1 (l : List Int) (n : Nat) (hn : n < l.length) (hb : l.length < 4611686018427387904) (r : Bool)
    (hr : Ev (fun k => if ((l.count (l.getD n 0) : Nat) : Int) = 2 then spec_l01Twice.l0 k l ((n + 1 : Nat) : Int) else some false) r) :
    ∀ d m c, m + d = l.length → c + (l.drop m).count (l.getD n 0) = l.count (l.getD n 0) → Ev (fun k => spec_l01Twice.l1 k l (n : Int) (c : Int) (m : Int)) r := by
  intro d
  induction d with
  | zero =>
    intro m c hm hc
    rw [List.drop_of_length_le (by omega), List.count_nil, Nat.add_zero] at hc
    refine Ev.step (fun k => ?_) hr
    simp only [spec_l01Twice.l1]; rw [if_neg (by omega), wS (by omega), hc]
  | succ d ih =>
    intro m c hm hc
    rw [drop_cons (l := l) (by omega), List.count_cons] at hc
    have hle := List.count_le_length (a := l.getD n 0) (l := l)
    by_cases e : l.getD m 0 = l.getD n 0
    · rw [e, if_pos (BEq.rfl)] at hc
      refine Ev.step (fun k => ?_) (ih (m + 1) (c + 1) (by omega) (by omega))
      simp only [spec_l01Twice.l1]; rw [if_pos (by omega), if_pos (by omega), if_pos (by omega), if_pos (by omega), rdN, rdN, if_pos e, wS (by omega), wS (by omega)]
    · rw [if_neg (by simpa using e)] at hc
      refine Ev.step (fun k => ?_) (ih (m + 1) c (by omega) (by omega))
      simp only [spec_l01Twice.l1]; rw [if_pos (by omega), if_pos (by omega), if_pos (by omega), if_pos (by omega), rdN, rdN, if_neg e, wS (by omega)]
theorem twice_l0 (l : List Int) (hb : l.length < 4611686018427387904) : ∀ d n, n + d = l.length → Ev (fun k => spec_l01Twice.l0 k l (n : Int)) ((l.drop n).all fun x => l.count x == 2) := by
  intro d
  induction d with
  | zero =>
    intro n hn
    rw [List.drop_of_length_le (by omega)]
    refine Ev.step (f := fun _ => some true) (fun k => ?_) (Ev.now _)
    simp only [spec_l01Twice.l0]; rw [if_neg (by omega)]
  | succ d ih =>
    intro n hn
    rw [drop_cons (l := l) (by omega), List.all_cons]
    refine Ev.step (f := fun k => spec_l01Twice.l1 k l (n : Int) ((0 : Nat) : Int) ((0 : Nat) : Int)) (fun k => ?_) ?_
    · simp only [spec_l01Twice.l0]; rw [if_pos (by omega)]; rfl
    · refine twice_l1 l n (by omega) hb _ ?_ l.length 0 0 (by omega) (by simp)
      by_cases e : l.count (l.getD n 0) = 2
      · refine Ev.congr (fun k => if_pos (by omega)) ?_
        rw [e]; simp only [BEq.rfl, Bool.true_and]
        exact ih (n + 1) (by omega)
      · refine Ev.congr (fun k => if_neg (by omega)) ?_
        rw [show (l.count (l.getD n 0) == 2) = false from by simpa using e, Bool.false_and]
        exact Ev.now _
theorem twice_ev (l : List Int) (hb : l.length < 4611686018427387904) : Ev (fun k => spec_l01Twice.f k l) (l.all fun x => l.count x == 2) :=
  Ev.congr (f := fun k => spec_l01Twice.l0 k l ((0 : Nat) : Int)) (fun _ => rfl) (twice_l0 l hb l.length 0 (by omega))
theorem snocInd {P : List Int → Prop} (h0 : P []) (h1 : ∀ l x, P l → P (l ++ [x])) : ∀ l, P l := by
  intro l
  suffices h : ∀ n, ∀ l : List Int, l.length = n → P l from h _ l rfl
  intro n
  induction n with
  | zero => intro l hl; rw [List.length_eq_zero_iff.1 hl]; exact h0
  | succ n ih =>
    intro l hl
    have hne : l ≠ [] := fun h => by rw [h] at hl; exact absurd hl (by simp)
    rw [← List.dropLast_concat_getLast hne]
    exact h1 _ _ (ih _ (by rw [List.length_dropLast]; omega))
theorem mets_nodup (l : List Int) : (mets l).Nodup := by
  refine snocInd (P := fun l => (mets l).Nodup) ?_ ?_ l
  · rw [mets_nil]; exact List.nodup_nil
  · intro l x h
    rw [mets_snoc]
    split
    · exact h
    · rename_i hx
      rw [List.nodup_append]
      exact ⟨h, List.nodup_cons.2 ⟨by simp, List.nodup_nil⟩, fun a ha b hb => by
        rw [List.mem_singleton] at hb; subst hb; intro e; subst e; exact hx (List.contains_iff_mem.2 ha)⟩
theorem idxOf_getD {m : List Int} (hd : m.Nodup) {j : Nat} (hj : j < m.length) : m.idxOf (m.getD j 0) = j := by
  rw [List.getD_eq_getElem?_getD, List.getElem?_eq_getElem hj]
  exact hd.idxOf_getElem j hj
theorem normal_l1 (l met out : List Int) (n : Nat) (hn : n < l.length) (hd : met.Nodup) (hm : met.length < 4611686018427387904) (r : List Int)
    (hr : Ev (fun k => if met.contains (l.getD n 0) then (if out.length < 17592186044416 then spec_l01Normal.l0 k l met (out ++ [(met.idxOf (l.getD n 0) : Int)]) (wrap64 ((n : Int) + 1)) else none)
      else (if met.length < 17592186044416 then (if out.length < 17592186044416 then spec_l01Normal.l0 k l (met ++ [l.getD n 0]) (out ++ [(met.length : Int)]) (wrap64 ((n : Int) + 1)) else none) else none)) r) :
    ∀ d m, m + d = met.length → Ev (fun k => spec_l01Normal.l1 k l met out (n : Int) (if (met.take m).contains (l.getD n 0) then (met.idxOf (l.getD n 0) : Int) else -1) (m : Int)) r := by
  intro d
  induction d with
  | zero =>
    intro m hmm
    refine Ev.step (fun k => ?_) hr
    simp only [spec_l01Normal.l1]
    rw [if_neg (by omega), List.take_of_length_le (by omega)]
    by_cases hc : met.contains (l.getD n 0) = true
    · rw [if_pos hc, if_pos hc, if_neg (by omega)]
    · rw [if_neg hc, if_neg hc, if_pos (by omega), if_pos (by omega), if_pos (by omega), rdN]
  | succ d ih =>
    intro m hmm
    refine Ev.step (fun k => ?_) (ih (m + 1) (by omega))
    have ht : (met.take (m + 1)).contains (l.getD n 0) = ((met.take m).contains (l.getD n 0) || (met.getD m 0 == l.getD n 0)) := by
      rw [take_snoc (by omega)]
      generalize met.getD m 0 = u
      generalize l.getD n 0 = v
      rw [Bool.eq_iff_iff]
      simp only [List.contains_iff_mem, List.mem_append, List.mem_singleton, Bool.or_eq_true, beq_iff_eq]
      exact or_congr Iff.rfl eq_comm
    simp only [spec_l01Normal.l1]
    rw [if_pos (by omega), if_pos (by omega), if_pos (by omega), if_pos (by omega), rdN, rdN, wS (by omega), ht]
    by_cases e : met.getD m 0 = l.getD n 0
    · rw [if_pos e, ← e, idxOf_getD hd (by omega)]; simp
    · rw [if_neg e, show (met.getD m 0 == l.getD n 0) = false from by simpa using e, Bool.or_false]
theorem normal_l0 (l : List Int) (hb : l.length < 17592186044416) : ∀ d n, n + d = l.length → Ev (fun k => spec_l01Normal.l0 k l (mets (l.take n)) (nrm (l.take n)) (n : Int)) (nrm l) := by
  intro d
  induction d with
  | zero =>
    intro n hn
    refine Ev.step (f := fun _ => some (nrm l)) (fun k => ?_) (Ev.now _)
    simp only [spec_l01Normal.l0]; rw [if_neg (by omega), List.take_of_length_le (by omega)]
  | succ d ih =>
    intro n hn
    have h1 := mets_le (l.take n)
    have h2 := nrm_len (l.take n)
    have h3 : (l.take n).length ≤ l.length := List.length_take_le' _ _
    refine Ev.step (f := fun k => spec_l01Normal.l1 k l (mets (l.take n)) (nrm (l.take n)) (n : Int) (if ((mets (l.take n)).take 0).contains (l.getD n 0) then ((mets (l.take n)).idxOf (l.getD n 0) : Int) else -1) ((0 : Nat) : Int)) (fun k => ?_) ?_
    · simp only [spec_l01Normal.l0]; rw [if_pos (by omega)]; simp
    · refine normal_l1 l _ _ n (by omega) (mets_nodup _) (by omega) _ ?_ (mets (l.take n)).length 0 (by omega)
      have hi := ih (n + 1) (by omega)
      rw [take_snoc (by omega), mets_snoc, nrm_snoc] at hi
      by_cases hc : (mets (l.take n)).contains (l.getD n 0) = true
      · rw [if_pos hc, if_pos hc] at hi
        refine Ev.congr (fun k => ?_) hi
        rw [if_pos hc, if_pos (by omega), wS (by omega)]
      · rw [if_neg hc, if_neg hc] at hi
        refine Ev.congr (fun k => ?_) hi
        rw [if_neg hc, if_pos (by omega), if_pos (by omega), wS (by omega)]
theorem normal_ev (l : List Int) (hb : l.length < 17592186044416) : Ev (fun k => spec_l01Normal.f k l) (nrm l) :=
  Ev.congr (f := fun k => spec_l01Normal.l0 k l (mets (l.take 0)) (nrm (l.take 0)) ((0 : Nat) : Int)) (fun _ => rfl) (normal_l0 l hb l.length 0 (by omega))
def tw (l : List Int) : Bool := l.all fun x => l.count x == 2
def isW (l : List Int) : Bool := decide (l.length ≤ 12) && tw l && decide (nrm l = l)
theorem is_ev (l : List Int) : Ev (fun k => spec_l01Is.f k l) (isW l) := by
  unfold spec_l01Is.f isW
  by_cases hl : l.length ≤ 12
  · refine Ev.congr (fun k => if_pos (by omega)) ?_
    rw [decide_eq_true hl, Bool.true_and]
    refine Ev.bind (twice_ev l (by omega)) ?_
    show Ev _ (tw l && _)
    cases ht : tw l with
    | false => exact Ev.congr (fun k => if_neg (by unfold tw at ht; rw [ht]; simp)) (Ev.now _)
    | true =>
      refine Ev.congr (fun k => if_pos (by unfold tw at ht; rw [ht])) ?_
      rw [Bool.true_and]
      refine Ev.bind (normal_ev l (by omega)) ?_
      have hn := nrm_len l
      exact Ev.bind (same_ev (nrm l) l (by omega)) (Ev.now _)
  · refine Ev.congr (fun k => if_neg (by omega)) ?_
    rw [decide_eq_false hl, Bool.false_and, Bool.false_and]
    exact Ev.now _
theorem okL_of {l : List Int} (hl : l.length * 8 ≤ 140737488351232) (hw : ∀ x ∈ l, (Lit.int .i64 x).wf = true) : okL l = true := by
  unfold okL
  simp only [Bool.and_eq_true, decide_eq_true_eq, List.all_eq_true]
  exact ⟨hl, hw⟩
theorem isWord_ev (l : List Int) (hw : ∀ x ∈ l, (Lit.int .i64 x).wf = true) : Ev (fun k => impl_IsWord.f k l) (isW l) := by
  unfold impl_IsWord.f isW
  by_cases hl : l.length ≤ 12
  · refine Ev.congr (fun k => if_pos (by omega)) ?_
    have hok : okL l = true := okL_of (by omega) hw
    rw [decide_eq_true hl, Bool.true_and]
    refine Ev.bind (a := tw l) (Ev.congr (fun _ => by unfold impl_twice.f; rw [if_pos hok]; rfl) (Ev.now _)) ?_
    cases ht : tw l with
    | false => exact Ev.congr (fun k => if_neg (by simp)) (Ev.now _)
    | true =>
      refine Ev.congr (fun k => if_pos rfl) ?_
      rw [Bool.true_and]
      refine Ev.bind (a := nrm l) (Ev.congr (fun _ => by unfold impl_normal.f; rw [if_pos hok]) (Ev.now _)) ?_
      have hn := nrm_len l
      exact Ev.bind (equal_ev (nrm l) l (by omega)) (Ev.now _)
  · refine Ev.congr (fun k => if_neg (by omega)) ?_
    rw [decide_eq_false hl, Bool.false_and, Bool.false_and]
    exact Ev.now _
theorem in_f (a b c : Int) : impl_in.f a b c = some (decide (b ≤ a ∧ a ≤ c)) := by
  unfold impl_in.f
  by_cases h : a ≥ b
  · rw [if_pos h]; simp [h]
  · rw [if_neg h]; simp [h]
theorem spec_in_f (a b c : Int) : spec_l01In.f a b c = some (decide (b ≤ a ∧ a ≤ c)) := by
  unfold spec_l01In.f
  by_cases h : a ≥ b
  · rw [if_pos h]; simp [h]
  · rw [if_neg h]; simp [h]
end Go.Proofs.Ytmeggliapebkgaa.Pure
end
section
namespace Go.Proofs.Ytmeggliapebkgaa.F
section
open Go.RowKit Go.Proofs.YtmeggliapebkgaaW.PrintWords Go.Proofs.YtmeggliapebkgaaW.PrintLast Go.Proofs.YtmeggliapebkgaaW.PrintMore
attribute [local go_sem] max2_int min2_int max_two min_two max_three min_three max_four min_four   
set_option linter.unusedVariables false
set_option linter.unusedSimpArgs false
open Go.Proofs.Ytmeggliapebkgaa.Mem Go.Proofs.Ytmeggliapebkgaa.Web Go.Maps
theorem webKey : Keyed Try.prog 2 := int_keyed Try.underlying2
theorem webZero (w : World) : (zeroValue 72).run Try.prog w = .ok (.slice none 0 0) w := by kernel_rfl
theorem info_webint : (Try.prog.info? 3).map (fun i => (i.zero, i.size, i.bytes)) = some (some (.int .i64 0), 1, 8) := by kernel_rfl
theorem row_of_C {e n : Nat} {w : World} {A : Option Addr} {rows : List (List Int)} (h : Kd.C (Kd.slice e (Kd.int .i64)) w A n rows) (j : Nat) (hj : j < n) : ∃ ad Aa ca, A = some ad ∧ w.cell? (ad.add j) = some (.slice Aa (rows.getD j []).length ca) ∧ (rows.getD j []).length ≤ ca ∧ Kd.C (Kd.int .i64) w Aa (rows.getD j []).length (rows.getD j []) := by
 obtain ⟨hl, _, hc⟩ := h
 obtain ⟨ad, rfl, hc2⟩ := hc (by omega)
 have hjl : j < rows.length := by omega
 obtain ⟨c, hcl, ⟨Aa, ca, rfl, hle, hC⟩, hcell⟩ := hc2 j _ (List.getElem?_eq_getElem hjl)
 have h0 := hcell 0 _ rfl
 rw [show (Kd.slice e (Kd.int .i64)).sz = 1 from rfl, Nat.mul_one, Nat.add_zero] at h0
 have hg : rows.getD j [] = rows[j] := by rw [List.getD_eq_getElem?_getD, List.getElem?_eq_getElem hjl]; rfl
 rw [hg]
 exact ⟨ad, Aa, ca, rfl, h0, hle, hC⟩
theorem step_append_own_at {P : Program} {ops : Array Oper} {o : Oper} {a : Act} {w : World} {K : Act → World → Prop} {Q : Exit → Act → World → Prop} {E : Prop} (hgd : o.guard = none) (s x : Operand) (t : TypeId)
  (ho : o.op = .call { callee := .builtin .append, args := #[s, x], argTypes := #[t, t] })
  (base : Nat) (e : TypeId) (i : TypeInfo) (z : Value) (size bytes : Nat) (ht : P.underlying t = some (.slice e)) (hi : P.info? e = some i) (hz : i.zero = some z)
  (hsize : i.size = size) (hby : i.bytes = bytes) (hzs : z.cells.size = size) (hsz : 0 < size)
  (v : Value) (n : Nat) (xs : List Value) (hs : a.eval s = v) (hown : w.ownsRow base e size v n xs)
  (ad : Addr) (m c : Nat) (news : List Value) (hx : a.eval x = .slice (some ad) m c) (hl : news.length = m * size) (hnews : ∀ j u, news[j]? = some u → w.cell? (ad.add j) = some u) (h1 : ∀ u ∈ news, u.oneCell' = true)
  (h63 : n + m ≤ maxLen) (hbytes : (n + m) * bytes ≤ 140737488355328) (hbase : base ≤ w.heap.size)
  (h : ∀ v' w', w'.ownsRow base e size v' (n + m) (xs ++ news) → w.grownBy w' v.ownBlock → (v' = .slice none 0 0 ↔ v = .slice none 0 0 ∧ m = 0) → (v'.ownBlock = v.ownBlock ∨ v'.ownBlock = some w.heap.size) → K (a.put o.dst v') w') :
  if Region.wanted o (yielded ops a.tmps) = true then Oper.wp P o a w K Q else E := by
 have hw : Region.wanted o (yielded ops a.tmps) = true := by simp [Region.wanted, hgd]
 rw [if_pos hw]
 obtain ⟨v', w', hr, h2, h3, h4, h5⟩ := run_append_own_at (P := P) (w := w) base t o.type e i z size bytes ht hi hz hsize hby hzs hsz v n xs hown ad m c news hl hnews h1 h63 hbytes hbase
 unfold Oper.wp execOp
 simp only [ho, resolve, invoke, builtin, Sem.run_bind, Sem.run_pure, Result.andThen_ok, List.map_toArray, List.map_cons, List.map_nil, hs, hx, hr]
 exact h v' w' h2 h3 h4 h5
set_option maxHeartbeats 4000000 in
set_option maxRecDepth 100000 in
theorem stands_walk (legs : List Int) (forks : List (List Int)) (Bw : Nat) (Al : Option Addr) (cl : Nat) (Af : Option Addr) (cf : Nat) (h8 : legs.length + forks.length ≤ 8) (h3 : ∀ f ∈ forks, f.length = 3) (hwf : ∀ p ∈ inc legs forks, (Lit.int .i64 p.1).wf = true) (w : World)
  (hb : w.heap[Bw]? = some (.cells #[.slice Al legs.length cl, .slice Af forks.length cf] 30 (0, 0))) (hl : Kd.C (Kd.int .i64) w Al legs.length legs) (hf : Kd.C (Kd.slice 2 (Kd.int .i64)) w Af forks.length forks) :
  Calls Try.prog 50 #[.pointer (some ⟨Bw, 0, none⟩)] w fun e w' => e = .returned (.map (some w.heap.size)) ∧ w'.ownsGroups (H := Unit) Try.prog 2 (w.heap.size + 1) 3 .i64 w.heap.size (inc legs forks).length (GTo (inc legs forks) (inc legs forks).length) ∧ Below w.heap.size w w' := by
 have hmm := @run_makeMap Try.prog
 obtain ⟨i0, hi, hz0, hz1, hz2⟩ := info_parts info_webint
 obtain ⟨nl, hnl⟩ : ∃ nl, nl = legs.length := ⟨_, rfl⟩
 obtain ⟨nf, hnf⟩ : ∃ nf, nf = forks.length := ⟨_, rfl⟩
 obtain ⟨I, hI⟩ : ∃ I, I = inc legs forks := ⟨_, rfl⟩
 have hIl : I.length = nl + 3 * nf := by rw [hI, inc_len h3, hnl, hnf]
 have hleg : ∀ k, k < nl → I.getD k (0, 0) = (legs.getD k 0, k) := fun k hk => by rw [hI]; exact inc_leg (by omega)
 have hfork : ∀ i k, i < nf → k < 3 → I.getD (nl + 3 * i + k) (0, 0) = ((forks.getD i []).getD k 0, nl + i) := fun i k hi hk => by rw [hI, hnl]; exact inc_fork h3 (by omega) hk
 have hwI : ∀ p, p < I.length → (Lit.int .i64 (I.getD p (0, 0)).1).wf = true := fun p hp => by rw [hI] at hp ⊢; exact wf_at hwf hp
 have hcb := blk_cell hb
 have hn8 : nl + nf ≤ 8 := by omega
 rw [← hnl] at hl
 rw [← hnf] at hf
 rw [← hnl, ← hnf] at hb
 rw [← hI]
 have H3 := Aside0.mk h3
 have HIL := Aside0.mk hIl
 have HLEG := Aside0.mk hleg
 have HFORK := Aside0.mk hfork
 have HWI := Aside0.mk hwI
 have HL := Aside0.mk hl
 have HF := Aside0.mk hf
 have HBK := Aside0.mk hb
 have HNF := Aside0.mk hnf
 have c0 : (w.alloc (.map #[] 0)).cell? ⟨Bw, 0, none⟩ = some (.slice Al nl cl) := (blk_cell (blk_alloc hb _) 0).trans rfl
 have HSTART := Aside0.mk (World.ownsGroups_made (H := Unit) w Try.prog 2 3 .i64)
 clear h8 h3 hwf hl hf hb hIl hleg hfork hwI hcb hI hnl hnf
 go_enter Try.func50, Try.ntmps50
 go_wp2
 go_loopw [16] (fun s16 wr => ∃ k : Nat, s16 = .int .i64 (k : Int) ∧ Aside0 (k ≤ nl) ∧ Aside0 (wr.ownsGroups (H := Unit) Try.prog 2 (w.heap.size + 1) 3 .i64 w.heap.size k (GTo I k)) ∧ Aside0 (Below w.heap.size w wr) ∧ Aside0 (w.heap.size + 1 ≤ wr.heap.size))
  (fun s16 _ => nl - (intOf s16).toNat)
 case atStart => exact ⟨0, rfl, ⟨Nat.zero_le _⟩, HSTART, ⟨(Below.refl _ _).alloc (Nat.le_refl _) _⟩, ⟨by simp⟩⟩
 case round =>
  clear HSTART c0 hmm
  obtain ⟨k, rfl, HK, HO, HB, HS⟩ := hrel
  by_cases hlt : k < nl
  ·have t1 : decide ((k : Int) < (nl : Int)) = true := decide_eq_true (by omega)
   have t2 : decide (k < nl) = true := decide_eq_true hlt
   have HLT := Aside0.mk hlt
   have hIk := HLEG.out k hlt
   have hwk := HWI.out k (by rw [HIL.out]; omega)
   rw [hIk] at hwk
   obtain ⟨ad, ead, hcell⟩ := cell_of_C (Kd.C_below HL.out HB.out) k hlt
   subst ead
   obtain ⟨e, he⟩ : ∃ e, e = legs.getD k 0 := ⟨_, rfl⟩
   rw [← he] at hcell hIk hwk
   have hkey := keyOf_int_mk Try.underlying2 hwk
   have HIK := Aside0.mk hIk
   clear he hIk hwk
   have hs := HS.out
   go_wp2_with (first
    | (at_lookup; refine wpList_lookup_groups _ rfl _ _ 76 rfl 2 72 3 .i64 webKey Try.underlying76 (webZero _) (w.heap.size + 1) w.heap.size k _ rfl HO.out (by unfold maxLen; omega) _ _ rfl hkey ?_; intro v zs hat hoi hzl hback)
    | (at_builtin; refine wpList_append_own_at _ rfl _ _ 72 rfl (w.heap.size + 1) 3 i0 (.int .i64 0) 1 8 Try.underlying72 hi hz0 hz1 hz2 rfl (by decide) _ _ _ rfl (hoi.1.alloc _) ⟨wr.heap.size, 0, none⟩ 1 1 [.int .i64 (k : Int)] rfl rfl (cell_one_new _ _ _) (ints_oneCell .i64 [(k : Int)]) (by unfold maxLen; omega) (by omega) (by simp; omega) ?_; intro v' w1 hown' hgrow hnil hloc)
    | (at_mapUpdate; refine wpList_mapUpdate_back _ rfl _ _ _ 76 rfl hback rfl rfl rfl ((World.grownBy_alloc _ _ _).trans hgrow) (hoi.appended hown' (WalkArith.wf_i64 (by omega))) (by simp; omega) (hloc.imp id (fun h => ⟨_, h, by simp⟩)) ?_; intro w2 hown2 hgrow2)
    | go_in)
   have hall := (World.grownBy_alloc wr _ _).trans hgrow
   go_roundw
   case rel =>
    have hz := GTo_zs (I := I) (p := k) (by rw [HIL.out]; omega) hoi hat
    refine ⟨k + 1, (by first | rfl | exact congrArg _ (wS (by omega))), ⟨HLT.out⟩, ⟨?_⟩, ⟨HB.out.groups hoi hall hgrow2 HB.out.size (Nat.le_succ _) (Nat.le_refl _)⟩, ⟨Nat.le_trans HS.out (Nat.le_trans hall.size hgrow2.size)⟩⟩
    rw [GTo_step (by rw [HIL.out]; omega) HIK.out hz (hoi.appended hown' (WalkArith.wf_i64 (by omega)))]
    exact hown2
   case measure => (try rw [wS (by omega)]); simp [intOf]; omega
  have t1 : decide ((k : Int) < (nl : Int)) = false := decide_eq_false (by omega)
  have t2 : decide (k < nl) = false := decide_eq_false hlt
  have hk : k = nl := by have := HK.out; omega
  subst hk
  clear hlt HK
  have c1 : wr.cell? ⟨Bw, 1, none⟩ = some (.slice Af nf cf) := (blk_cell (blk_below HBK.out HB.out) 1).trans rfl
  go_wp2_with fail
  clear c1
  go_loopw [35] (fun s35 wr => ∃ i : Nat, s35 = .int .i64 (i : Int) ∧ Aside0 (i ≤ nf) ∧ Aside0 (wr.ownsGroups (H := Unit) Try.prog 2 (w.heap.size + 1) 3 .i64 w.heap.size (k + 3 * i) (GTo I (k + 3 * i))) ∧ Aside0 (Below w.heap.size w wr) ∧ Aside0 (w.heap.size + 1 ≤ wr.heap.size))
   (fun s35 _ => nf - (intOf s35).toNat)
  case atStart => exact ⟨0, rfl, ⟨Nat.zero_le _⟩, HO, HB, HS⟩
  case round =>
   clear HO HB HS
   obtain ⟨i, rfl, HI, HO, HB, HS⟩ := hrel
   by_cases hi2 : i < nf
   rotate_left
   ·have t3 : decide ((i : Int) < (nf : Int)) = false := decide_eq_false (by omega)
    have t4 : decide (i < nf) = false := decide_eq_false hi2
    have hi : i = nf := by have := HI.out; omega
    clear hi2
    go_wp2_with fail
    go_ret
    refine ⟨rfl, ?_, HB.out⟩
    rw [HIL.out, ← hi]
    exact HO.out
   have t3 : decide ((i : Int) < (nf : Int)) = true := decide_eq_true (by omega)
   have t4 : decide (i < nf) = true := decide_eq_true hi2
   have HIN := Aside0.mk hi2
   obtain ⟨ad, Aa, ca, ead, hrow0, hca, hCa⟩ := row_of_C HF.out i hi2
   subst ead
   have hrow := (HB.out.cell (World.block_lt_of_cell? w _ hrow0)).trans hrow0
   have hl3 : (forks.getD i []).length = 3 := H3.out _ (by rw [List.getD_eq_getElem?_getD, List.getElem?_eq_getElem (by rw [← HNF.out]; exact hi2)]; exact List.getElem_mem _)
   rw [hl3] at hrow hCa
   obtain ⟨fk, hfk⟩ : ∃ fk, fk = forks.getD i [] := ⟨_, rfl⟩
   rw [← hfk] at hCa hl3
   have HFK := Aside0.mk hfk
   obtain ⟨ad2, ead2, _⟩ := cell_of_C hCa 0 (by omega)
   subst ead2
   have HCA := Aside0.mk hCa
   clear hfk hl3 hCa hrow0
   go_wp2_with fail
   clear hrow
   go_loopw [42] (fun s42 wr => ∃ j : Nat, s42 = .int .i64 (j : Int) ∧ Aside0 (j ≤ 3) ∧ Aside0 (wr.ownsGroups (H := Unit) Try.prog 2 (w.heap.size + 1) 3 .i64 w.heap.size (k + 3 * i + j) (GTo I (k + 3 * i + j))) ∧ Aside0 (Below w.heap.size w wr) ∧ Aside0 (w.heap.size + 1 ≤ wr.heap.size))
    (fun s42 _ => 3 - (intOf s42).toNat)
   case atStart => exact ⟨0, rfl, ⟨Nat.zero_le _⟩, HO, HB, HS⟩
   case round =>
    clear HO HB HS
    obtain ⟨j, rfl, HJ, HO, HB, HS⟩ := hrel
    by_cases hj : j < 3
    rotate_left
    ·have t5 : decide ((j : Int) < (3 : Int)) = false := decide_eq_false (by omega)
     have t6 : decide (j < 3) = false := decide_eq_false hj
     have hj3 : j = 3 := by have := HJ.out; omega
     subst hj3
     clear hj
     go_wp2_with fail
     go_roundw
     case rel => exact ⟨i + 1, (by first | rfl | exact congrArg _ (wS (by omega))), ⟨HIN.out⟩, HO, HB, HS⟩
     case measure => (try rw [wS (by omega)]); simp [intOf]; omega
    have t5 : decide ((j : Int) < (3 : Int)) = true := decide_eq_true (by omega)
    have t6 : decide (j < 3) = true := decide_eq_true hj
    have HJ3 := Aside0.mk hj
    have hIk := HFORK.out i j hi2 hj
    have hpl : k + 3 * i + j < I.length := by rw [HIL.out]; omega
    have hwk := HWI.out _ hpl
    rw [hIk, ← HFK.out] at hwk
    rw [← HFK.out] at hIk
    obtain ⟨ad3, ead3, hcell0⟩ := cell_of_C HCA.out j hj
    obtain rfl := Option.some.inj ead3
    have hcell := (HB.out.cell (World.block_lt_of_cell? w _ hcell0)).trans hcell0
    obtain ⟨e, he⟩ : ∃ e, e = fk.getD j 0 := ⟨_, rfl⟩
    rw [← he] at hcell hIk hwk
    have hkey := keyOf_int_mk Try.underlying2 hwk
    have HIK := Aside0.mk hIk
    have HPL := Aside0.mk hpl
    have hs := HS.out
    have c2 : wr.cell? ⟨Bw, 0, none⟩ = some (.slice Al k cl) := (blk_cell (blk_below HBK.out HB.out) 0).trans rfl
    have hod : (wr.drew).ownsGroups (H := Unit) Try.prog 2 (w.heap.size + 1) 3 .i64 w.heap.size (k + 3 * i + j) (GTo I (k + 3 * i + j)) := HO.out
    obtain ⟨U, hUU⟩ : ∃ U : Nat, U = k + i := ⟨_, rfl⟩
    have hu : IntKind.i64.wrap ((k : Int) + (i : Int)) = (U : Int) := by rw [i64_w]; unfold wrap64; omega
    have HU := Aside0.mk hUU
    have hoe : ((wr.alloc (.cells #[.int .i64 (U : Int)] 3)).drew).ownsGroups (H := Unit) Try.prog 2 (w.heap.size + 1) 3 .i64 w.heap.size (k + 3 * i + j) (GTo I (k + 3 * i + j)) := hod.kept (World.grownBy_alloc wr.drew _ none) (by simp) (fun es clock _ x _ => by cases x.val.ownBlock <;> simp)
    obtain ⟨va, za, hra, hata, hoia, hzla, hbacka⟩ := hod.at webKey Try.underlying76 (webZero _) (by unfold maxLen; omega) hkey
    obtain ⟨vb, zb, hrb, hatb, hoib, hzlb, hbackb⟩ := hoe.at webKey Try.underlying76 (webZero _) (by unfold maxLen; omega) hkey
    have HATA := Aside0.mk hata
    have HATB := Aside0.mk hatb
    have HBKA := Aside0.mk hbacka
    have HBKB := Aside0.mk hbackb
    have HOIA := Aside0.mk hoia
    have HOIB := Aside0.mk hoib
    clear hata hatb hbacka hbackb hoia hoib hod hoe he hIk hwk hcell0 hpl hUU
    go_wp2_with fail
    go_region_law (first
     | (refine step_append_own_at rfl (.tmp 50) (.tmp 58) 72 rfl (w.heap.size + 1) 3 i0 (.int .i64 0) 1 8 Try.underlying72 hi hz0 hz1 hz2 rfl (by decide) va za.length (za.map (Value.int .i64)) ?s (HOIA.out.1.alloc _) ⟨wr.heap.size, 0, none⟩ 1 1 [.int .i64 (U : Int)] (by simp [Act.eval, Act.put]) rfl (cell_one_new wr _ _) (ints_oneCell .i64 [(U : Int)]) (by unfold maxLen; omega) (by omega) (by simp; omega) ?_; (case s => (simp [Act.eval, Act.put]; done)); intro v' w1 hown' hgrow hnil hloc; have HOA := Aside0.mk (HOIA.out.appended (x := (U : Int)) (w1 := w1) hown' (WalkArith.wf_i64 (by have := HU.out; omega))); obtain ⟨w2, hrun2, hown2, hg2⟩ := HBKA.out w1 v' (za ++ [(U : Int)]) ((World.grownBy_alloc wr.drew _ _).trans hgrow) HOA.out (by simp; omega) (hloc.imp id (fun h => ⟨_, h, by simp⟩)); have HZ := Aside0.mk (GTo_zs (I := I) (p := k + 3 * i + j) (by have := HPL.out; omega) HOIA.out HATA.out); have HOW2 := Aside0.mk hown2; have HBB2 := Aside0.mk ((below_drew HB.out).groups HOIA.out ((World.grownBy_alloc wr.drew _ _).trans hgrow) hg2 HB.out.size (Nat.le_succ _) (Nat.le_refl _)); have HSZ2 := Aside0.mk (Nat.le_trans (show wr.heap.size ≤ w1.heap.size from Nat.le_trans (by simp) hgrow.size) hg2.size); have HST := Aside0.mk (GTo_step (I := I) (p := k + 3 * i + j) HPL.out (by rw [HIK.out, HU.out]) HZ.out HOA.out); clear hown' hgrow hnil hloc hown2 hg2)
     | (refine step_append_own_at rfl (.tmp 50) (.tmp 58) 72 rfl (w.heap.size + 1) 3 i0 (.int .i64 0) 1 8 Try.underlying72 hi hz0 hz1 hz2 rfl (by decide) vb zb.length (zb.map (Value.int .i64)) ?s HOIB.out.1 ⟨wr.heap.size, 0, none⟩ 1 1 [.int .i64 (U : Int)] (by simp [Act.eval, Act.put]) rfl (cell_one_new wr _ _) (ints_oneCell .i64 [(U : Int)]) (by unfold maxLen; omega) (by omega) (by simp; omega) ?_; (case s => (simp [Act.eval, Act.put]; done)); intro v' w1 hown' hgrow hnil hloc; have HOA := Aside0.mk (HOIB.out.appended (x := (U : Int)) (w1 := w1) hown' (WalkArith.wf_i64 (by have := HU.out; omega))); obtain ⟨w2, hrun2, hown2, hg2⟩ := HBKB.out w1 v' (zb ++ [(U : Int)]) hgrow HOA.out (by simp; omega) (hloc.imp id (fun h => ⟨_, h, Nat.le_of_eq rfl⟩)); have HZ := Aside0.mk (GTo_zs (I := I) (p := k + 3 * i + j) (by have := HPL.out; omega) HOIB.out HATB.out); have HOW2 := Aside0.mk hown2; have HBB2 := Aside0.mk ((below_drew (below_alloc HB.out (.cells #[.int .i64 (U : Int)] 3))).groups HOIB.out hgrow hg2 (Nat.le_trans HB.out.size (by simp)) (Nat.le_succ _) (Nat.le_refl _)); have HSZ2 := Aside0.mk (Nat.le_trans (show wr.heap.size ≤ w1.heap.size from Nat.le_trans (by simp) hgrow.size) hg2.size); have HST := Aside0.mk (GTo_step (I := I) (p := k + 3 * i + j) HPL.out (by rw [HIK.out, HU.out]) HZ.out HOA.out); clear hown' hgrow hnil hloc hown2 hg2))
    all_goals
     go_wp2_with fail
     go_roundw
     case rel => exact ⟨j + 1, (by first | rfl | exact congrArg _ (wS (by omega))), ⟨HJ3.out⟩, ⟨by rw [show k + 3 * i + (j + 1) = k + 3 * i + j + 1 from rfl, HST.out]; exact HOW2.out⟩, HBB2, ⟨Nat.le_trans HS.out HSZ2.out⟩⟩
     case measure => have := HJ3.out; (try rw [wS (by omega)]); simp [intOf]; omega
end
section
open Go.RowKit Go.Proofs.YtmeggliapebkgaaW.PrintWords Go.Proofs.YtmeggliapebkgaaW.PrintLast Go.Proofs.YtmeggliapebkgaaW.PrintMore
attribute [local go_sem] max2_int min2_int max_two min_two max_three min_three max_four min_four   
set_option linter.unusedVariables false
set_option linter.unusedSimpArgs false
open Go.Proofs.Ytmeggliapebkgaa.Mem Go.Proofs.Ytmeggliapebkgaa.Web Go.Maps
set_option maxHeartbeats 2000000 in
set_option maxRecDepth 100000 in
theorem nodes_walk (nl nf : Nat) (Bw : Nat) (Al : Option Addr) (cl : Nat) (Af : Option Addr) (cf : Nat) (h8 : nl + nf ≤ 4611686018427387904) (w : World) (hb : w.heap[Bw]? = some (.cells #[.slice Al nl cl, .slice Af nf cf] 30 (0, 0))) :
  Calls Try.prog 101 #[.pointer (some ⟨Bw, 0, none⟩)] w fun e w' => e = .returned (.int .i64 ((nl + nf : Nat) : Int)) ∧ ∃ nd, w' = w.drewN nd := by
 have c0 : w.cell? ⟨Bw, 0, none⟩ = some (.slice Al nl cl) := (blk_cell hb 0).trans rfl
 have c1 : w.cell? ⟨Bw, 1, none⟩ = some (.slice Af nf cf) := (blk_cell hb 1).trans rfl
 have hu : IntKind.i64.wrap ((nl : Int) + (nf : Int)) = ((nl + nf : Nat) : Int) := by rw [i64_w]; unfold wrap64; omega
 clear hb
 go_enter Try.func101, Try.ntmps101
 go_wp2
 go_quiet (fail)
 go_wp2
 go_ret
 exact ⟨by first | rfl | (rw [hu]), _, rfl⟩
def upTo (n i : Nat) : List Int := (List.range n).map fun a => if a < i then (a : Int) else 0
theorem upTo_zero (n : Nat) : upTo n 0 = List.replicate n 0 := by
 unfold upTo
 rw [List.map_congr_left (g := fun _ => (0 : Int)) (fun a _ => if_neg (Nat.not_lt_zero _)), List.map_const']; simp
theorem upTo_succ (n i : Nat) (h : i < n) : (upTo n i).set i (i : Int) = upTo n (i + 1) := by
 apply List.ext_getElem
 ·simp [upTo]
 ·intro j h1 h2
  have hj : j < n := by simpa [upTo] using h2
  simp only [upTo, List.getElem_set, List.getElem_map, List.getElem_range]
  by_cases e : i = j
  ·subst e; rw [if_pos rfl, if_pos (by omega)]
  rw [if_neg e]
  by_cases g : j < i
  rotate_left
  ·rw [if_neg g, if_neg (by omega)]
  rw [if_pos g, if_pos (by omega)]
theorem upTo_full (n : Nat) : upTo n n = ints (List.range n) := by
 unfold upTo ints
 exact List.map_congr_left fun a ha => if_pos (List.mem_range.1 ha)
theorem upTo_len (n i : Nat) : (upTo n i).length = n := by simp [upTo]
theorem groups_own {H : Type} {P : Program} {k : TypeId} {w : World} {base : Nat} {e : TypeId} {q : IntKind} {b n : Nat} {D : DataW H} (h : w.ownsGroups P k base e q b n D) : w.ownsMap P k (rowElem w base e q) b n D := by
 obtain ⟨es, clock, hb, F, hs, hD, _⟩ := h
 exact ⟨es, clock, hb, F, hs, hD⟩
theorem own_two {w : World} {base : Nat} {e : TypeId} {v : Value} {x y : Int} (h : w.ownsInts base e .i64 v [x, y]) : ∃ g cap, v = .slice (some ⟨g, 0, none⟩) 2 cap ∧ base ≤ g ∧ g < w.heap.size ∧ w.cell? ⟨g, 0, none⟩ = some (.int .i64 x) ∧ w.cell? ⟨g, 1, none⟩ = some (.int .i64 y) := by
 have hR : Kd.R (Kd.int .i64) e w base (fun k => base ≤ k) v [x, y] := R_of_own h.1
 obtain ⟨A, c, rfl, hc, hC⟩ := Kd.R_reads hR
 obtain ⟨ad, rfl, h0⟩ := cell_of_C hC 0 (by show 0 < 2; omega)
 obtain ⟨ad', he, h1⟩ := cell_of_C hC 1 (by show 1 < 2; omega)
 obtain rfl := Option.some.inj he
 obtain ⟨g, rfl⟩ := Kd.R_head hR
 rw [add_plain] at h0 h1
 exact ⟨g, c, rfl, Kd.R_base hR g (by simp [Value.ownBlock]), Kd.R_lt hR g (by simp [Value.ownBlock]), h0, h1⟩
theorem inv_key {key : Value} {kl : Lit} (h : keyOf Try.prog 2 key = some kl) : ∃ x, key = Value.int .i64 x := by
 obtain ⟨x, hx, _⟩ := keyOf_int_inv Try.underlying2 h
 exact ⟨x, hx⟩
theorem come_of {w1 : World} {base : Nat} {I : List (Int × Nat)} {x : Int} {c : Value} {kl : Lit} {y : DataW Unit × List MemPlace} (hkey : keyOf Try.prog 2 (.int .i64 x) = some kl) (hR : rowElem w1 base 3 .i64 c = some y) (hat : ∀ zd, (GTo I I.length).atKey kl zd = y.1) :
  kl = keyL x ∧ w1.ownsInts base 3 .i64 c (ints (ends I x)) ∧ ends I x ≠ [] := by
 obtain ⟨x', hx, rfl, _⟩ := keyOf_int_inv Try.underlying2 hkey
 injection hx with _ hx
 subst hx
 obtain ⟨zs, ho, rfl⟩ := rowElem_inv hR
 have hz := GTo_zs (I := I) (p := I.length) (e := x) (Nat.le_refl _) ho (hat .nil)
 rw [List.take_length] at hz
 refine ⟨rfl, by rw [← hz]; exact ho, fun h0 => ?_⟩
 have h1 := hat .nil
 have h2 := hat (.lit (.bool true))
 have g1 := GTo_at I x .nil I.length (Nat.le_refl _)
 have g2 := GTo_at I x (.lit (.bool true)) I.length (Nat.le_refl _)
 rw [List.take_length, if_pos h0] at g1 g2
 have : (DataW.nil : DataW Unit) = .lit (.bool true) := g1.symm.trans (h1.trans (h2.symm.trans g2))
 cases this
theorem same_keyL (e x : Int) : (keyL e).sameKey (keyL x) = (e == x) := by
 unfold keyL Lit.sameKey
 rw [Bool.eq_iff_iff]; simp
theorem ints_put (l : List Nat) (i x : Nat) : (ints l).set i (x : Int) = ints (l.set i x) := by unfold ints; rw [List.map_set]
theorem left_step (p : Bool) (L : List Int) (e x : Int) : (((!p) && !L.contains e) && !(e == x)) = ((!p) && !(L ++ [x]).contains e) := by
 have h : (L ++ [x]).contains e = (L.contains e || e == x) := by
  rw [Bool.eq_iff_iff, List.contains_iff_mem, Bool.or_eq_true, List.contains_iff_mem, List.mem_append, List.mem_singleton, beq_iff_eq]
 rw [h]
 cases p <;> cases L.contains e <;> cases (e == x) <;> rfl
set_option maxHeartbeats 4000000 in
set_option maxRecDepth 100000 in
theorem partsOf_walk (legs : List Int) (forks : List (List Int)) (n Bw : Nat) (Al : Option Addr) (cl : Nat) (Af : Option Addr) (cf : Nat) (hn : n = legs.length + forks.length) (h8 : n ≤ 8) (h3 : ∀ f ∈ forks, f.length = 3) (hwf : ∀ p ∈ inc legs forks, (Lit.int .i64 p.1).wf = true) (h2 : Two (inc legs forks) n) (w : World)
  (hb : w.heap[Bw]? = some (.cells #[.slice Al legs.length cl, .slice Af forks.length cf] 30 (0, 0))) (hl : Kd.C (Kd.int .i64) w Al legs.length legs) (hf : Kd.C (Kd.slice 2 (Kd.int .i64)) w Af forks.length forks) :
  Calls Try.prog 105 #[.pointer (some ⟨Bw, 0, none⟩)] w fun e w' => ∃ v0_ : Value, e = .returned v0_ ∧ Kd.R (Kd.int .i64) 3 w' w.heap.size (fun _ => True) v0_ (ints ((List.range n).map (lbl (inc legs forks)))) ∧ Below w.heap.size w w' := by
 have hmk := make_ints (P := Try.prog) Try.underlying72 info_webint (n : Int) n rfl (by omega)
 have HN := Aside0.mk hn
 have H8 := Aside0.mk h8
 have H3 := Aside0.mk h3
 have HWF := Aside0.mk hwf
 have H2 := Aside0.mk h2
 have HBK := Aside0.mk hb
 have HL := Aside0.mk hl
 have HF := Aside0.mk hf
 obtain ⟨Bo, hBo⟩ : ∃ Bo, Bo = w.heap.size := ⟨_, rfl⟩
 have HBO := Aside0.mk hBo
 clear hn h3 hwf h2 hb hl hf
 go_enter Try.func105, Try.ntmps105
 go_wp2_with (first
  | (go_at_call 101; refine (nodes_walk legs.length forks.length Bw Al cl Af cf (by have := HN.out; have := H8.out; omega) _ HBK.out).mono ?_; rintro e w1 ⟨rfl, ⟨nd, rfl⟩⟩; rw [← HN.out]))
 rw [← hBo]
 have HH0 : Aside0 (((w.drewN nd).alloc (.cells (nums .i64 (List.replicate n 0)).toArray 3)).heap[Bo]? = some (.cells (nums .i64 (upTo n 0)).toArray 3 (0, 0))) := ⟨by rw [upTo_zero]; exact new_at hBo⟩
 have HB0 : Aside0 (Below w.heap.size w ((w.drewN nd).alloc (.cells (nums .i64 (List.replicate n 0)).toArray 3))) := ⟨below_alloc (pw_below_drewN (Below.refl _ _) _) _⟩
 clear hBo hmk
 go_loopw [13] (fun s13 wr => ∃ i : Nat, s13 = .int .i64 (i : Int) ∧ Aside0 (i ≤ n) ∧ Aside0 (wr.heap[Bo]? = some (.cells (nums .i64 (upTo n i)).toArray 3 (0, 0))) ∧ Aside0 (Below w.heap.size w wr))
  (fun s13 _ => n - (intOf s13).toNat)
 case atStart => exact ⟨0, rfl, ⟨Nat.zero_le _⟩, HH0, HB0⟩
 case round =>
  clear HH0 HB0
  obtain ⟨i, rfl, HI, HH, HB⟩ := hrel
  by_cases hi : i < n
  ·have t1 : decide ((i : Int) < (n : Int)) = true := decide_eq_true (by omega)
   have t2 : decide (i < n) = true := decide_eq_true hi
   have hx := (blk_cell HH.out i).trans (nums_get _ i (by rw [upTo_len]; exact hi))
   have hfz := blk_frozen HH.out i
   go_wp2_with fail
   go_roundw
   case rel => exact ⟨i + 1, (by first | rfl | exact congrArg _ (wS (by omega))), ⟨by omega⟩, ⟨by rw [← upTo_succ n i hi, ← nums_set]; exact blk_set HH.out _ _⟩, ⟨below_grown HB.out (grown_set (grown_refl _ _) i _) (by have := HBO.out; omega)⟩⟩
   case measure => (try rw [wS (by omega)]); simp [intOf]; omega
  have t1 : decide ((i : Int) < (n : Int)) = false := decide_eq_false (by omega)
  have t2 : decide (i < n) = false := decide_eq_false hi
  have hin : i = n := by have := HI.out; omega
  subst hin
  clear hi
  have HH1 : Aside0 (wr.heap[Bo]? = some (.cells (nums .i64 (ints (List.range i))).toArray 3 (0, 0))) := ⟨by rw [← upTo_full]; exact HH.out⟩
  go_wp2_with fail
  clear HH
  go_loopw [23] (fun s23 wr => ∃ (t : Nat) (out : List Nat), s23 = .int .i64 (t : Int) ∧ Aside0 (t ≤ i) ∧ Aside0 (Rounds (inc legs forks) i t out) ∧ Aside0 (wr.heap[Bo]? = some (.cells (nums .i64 (ints out)).toArray 3 (0, 0))) ∧ Aside0 (Below w.heap.size w wr))
   (fun s23 _ => i - (intOf s23).toNat)
  case atStart => exact ⟨0, _, rfl, ⟨Nat.zero_le _⟩, ⟨.zero⟩, HH1, HB⟩
  case round =>
   clear HH1 HB
   obtain ⟨t, out, rfl, HT, HRO, HH, HB⟩ := hrel
   by_cases ht : t < i
   rotate_left
   ·have t3 : decide ((t : Int) < (i : Int)) = false := decide_eq_false (by omega)
    have t4 : decide (t < i) = false := decide_eq_false ht
    have hti : t = i := by have := HT.out; omega
    subst hti
    clear ht
    go_wp2_with fail
    go_ret
    refine ⟨_, rfl, ?_, HB.out⟩
    have e := rounds_lbl H2.out HRO.out
    have hl : (ints out).length = t := by rw [e, ints_len]; simp
    rw [← e]
    exact R_of_block HH.out hl (by have := H8.out; unfold maxLen; omega) (by have := HBO.out; omega)
   have t3 : decide ((t : Int) < (i : Int)) = true := decide_eq_true (by omega)
   have t4 : decide (t < i) = true := decide_eq_true ht
   have HTI := Aside0.mk ht
   obtain ⟨wo, hwo⟩ : ∃ wo, wo = wr := ⟨wr, rfl⟩
   subst hwo
   go_wp2_with (first
    | (go_at_call 50; refine (stands_walk legs forks Bw Al cl Af cf (by have := HN.out; have := H8.out; omega) H3.out HWF.out wo (blk_below HBK.out HB.out) (Kd.C_below HL.out HB.out) (Kd.C_below HF.out HB.out)).mono ?_; rintro e w1 ⟨rfl, hgr1, hb1⟩; have HGR := Aside0.mk hgr1; have HB1 := Aside0.mk hb1; clear hgr1 hb1)
    | (at_range; refine wpList_range_own _ rfl _ 76 rfl 2 72 webKey Try.underlying76 _ wo.heap.size (inc legs forks).length _ rfl (groups_own HGR.out) ?_; intro w2 hrg2 hg2 hs2)
    | go_in)
   go_frame
   obtain ⟨I, hI⟩ : ∃ I, I = inc legs forks := ⟨_, rfl⟩
   rw [← hI] at hrg2
   have HII := Aside0.mk hI
   have HH2 : Aside0 (w2.heap[Bo]? = some (.cells (nums .i64 (ints (([] : List Int).foldl (relax I) out))).toArray 3 (0, 0))) := ⟨blk_grown (blk_below HH.out HB1.out) hg2 (by simp)⟩
   have HRG2 := Aside0.mk hrg2
   have HL2 : Aside0 (∀ e, Maps.has (GTo I I.length) (keyL e) = ((!(ends I e).isEmpty) && !([] : List Int).contains e)) := ⟨fun e => by
    have h := GTo_has I e I.length (Nat.le_refl _)
    rw [List.take_length] at h
    rw [h]; simp⟩
   have HG2 := Aside0.mk (grown_of_none hg2 (some Bo))
   have HBW := Aside0.mk (blk_lt HH.out)
   clear hI hrg2 hg2 hs2
   go_loopw [6] (fun _ wr => ∃ (left : Lit → Bool) (cnt : Nat) (L : List Int), Aside0 (wr.ranges Try.prog 2 (rowElem (H := Unit) w1 (wo.heap.size + 1) 3 .i64) wo.heap.size w1.heap.size I.length (GTo I I.length) left cnt) ∧ Aside0 (∀ e, left (keyL e) = ((!(ends I e).isEmpty) && !L.contains e)) ∧ Aside0 (∀ e ∈ L, ∃ u, (e, u) ∈ I) ∧ Aside0 (wr.heap[Bo]? = some (.cells (nums .i64 (ints (L.foldl (relax I) out))).toArray 3 (0, 0))) ∧ Aside0 (w1.grownBy wr (some Bo)))
    (fun _ wr => wr.rangeLeft wo.heap.size w1.heap.size)
   case atStart => exact ⟨_, _, [], by rw [HII.out]; rw [HII.out] at HRG2; exact HRG2, HL2, ⟨by simp⟩, HH2, HG2⟩
   case round =>
    clear HH2 HRG2 HL2 HG2
    obtain ⟨left, cnt, L, HRG, HLE, HLI, HHO, HG⟩ := hrel
    have h2 := H2.out
    rw [← HII.out] at h2
    have hro := HRO.out
    rw [← HII.out] at hro
    have hfit := (fold_keep h2 L out HLI.out (rounds_fits h2 hro)).1
    have HFIT := Aside0.mk hfit
    clear hro
    go_wp2_with (first
     | (at_next; refine wpList_next_ranges (α := Int) (β := Value) _ rfl _ rfl 2 webKey (rowElem (H := Unit) w1 (wo.heap.size + 1) 3 .i64) (Value.int .i64) id (fun key kl h => inv_key h) (fun v y _ => ⟨v, rfl⟩) wo.heap.size w1.heap.size I.length (GTo I I.length) left cnt rfl HRG.out ?_ ?_)
     | go_in)
    ·intro hc0 hl0
     have hround : Round I out (L.foldl (relax I) out) := by
      refine ⟨L, fun e => ⟨HLI.out e, fun ⟨u, hu⟩ => ?_⟩, rfl⟩
      have h := HLE.out e
      rw [hl0] at h
      have hne : ends I e ≠ [] := fun h0 => by have := mem_ends.2 hu; rw [h0] at this; exact absurd this (by simp)
      cases hc : L.contains e with
      | true => exact List.contains_iff_mem.1 hc
      | false =>
       rw [hc] at h
       cases hh : ends I e with
       | nil => exact absurd hh hne
       | cons _ _ => rw [hh] at h; simp at h
     have HROU := Aside0.mk hround
     clear hround
     go_wp2
     go_roundw
     case rel => exact ⟨t + 1, L.foldl (relax I) out, (by first | rfl | exact congrArg _ (wS (by omega))), ⟨HTI.out⟩, ⟨.succ HRO.out (by rw [← HII.out]; exact HROU.out)⟩, HHO, ⟨below_grown (below_step HB.out HB1.out) HG.out (by have := HBO.out; omega)⟩⟩
     case measure => (try rw [wS (by omega)]); simp [intOf]; omega
    ·intro x c kl d ps w3 cnt3 hkey hlk hR hat hrg3 hlt3 hg3 hs3 hen
     obtain ⟨rfl, hown, hne⟩ := come_of hkey hR hat
     have hlx := HLE.out x
     rw [hlk] at hlx
     obtain ⟨u, hu⟩ := List.exists_mem_of_ne_nil _ hne
     obtain ⟨a, b, hab, ha, hb, hj, _⟩ := h2.at_ (mem_ends.1 hu)
     rw [hab] at hown
     obtain ⟨g, cap, rfl, hg1, hg2, hc0, hc1⟩ := own_two hown
     obtain ⟨O, hO⟩ : ∃ O, O = L.foldl (relax I) out := ⟨_, rfl⟩
     have hho := HHO.out
     have hf := HFIT.out
     rw [← hO] at hho hf
     have hol := hf.len
     have hoi : (ints O).length = O.length := ints_len O
     have HOE := Aside0.mk hO
     have hBog : Bo ≠ g := by have := HBW.out; omega
     have hgr : g ≠ w1.heap.size := by omega
     have hBor : Bo ≠ w1.heap.size := by have := HBW.out; have := HB1.out.size; omega
     have hBom : Bo ≠ wo.heap.size := by have := HBW.out; omega
     have hk0 := hg3.cell (HG.out.cell hc0 (by simp; exact Ne.symm hBog)) (by simp; exact hgr)
     have hk1 := hg3.cell (HG.out.cell hc1 (by simp; exact Ne.symm hBog)) (by simp; exact hgr)
     have hh3 := blk_grown hho hg3 (by simp; exact hBor)
     have hxa := (blk_cell hh3 a).trans (nums_get _ a (by omega))
     have hxb := (blk_cell hh3 b).trans (nums_get _ b (by omega))
     rw [ints_getD O a (by omega)] at hxa
     rw [ints_getD O b (by omega)] at hxb
     obtain ⟨lo, hlo⟩ : ∃ lo, lo = low2 O a b := ⟨_, rfl⟩
     obtain ⟨va, hva⟩ : ∃ va, va = O.getD a 0 := ⟨_, rfl⟩
     obtain ⟨vb, hvb⟩ : ∃ vb, vb = O.getD b 0 := ⟨_, rfl⟩
     rw [← hva] at hxa
     rw [← hvb] at hxb
     have hmn : (if vb < va then (vb : Int) else (va : Int)) = (lo : Int) := by
      rw [hlo, low2]
      show _ = ((min (O.getD a 0) (O.getD b 0) : Nat) : Int)
      rw [← hva, ← hvb]
      split <;> omega
     have HLO := Aside0.mk hlo
     have HH3 := Aside0.mk hh3
     have HFO := Aside0.mk hf
     have HOI := Aside0.mk hoi
     have HRG3 := Aside0.mk hrg3
     have HG3 := Aside0.mk (HG.out.andThen hg3 (fun j hj => by cases hj; exact Or.inl (Nat.le_refl _)))
     have HAB := Aside0.mk hab
     have HJ := Aside0.mk hj
     have HLK := Aside0.mk hlk
     have HLT3 := Aside0.mk hlt3
     have HBOM := Aside0.mk hBom
     have HBOR := Aside0.mk hBor
     have HBOG := Aside0.mk hBog
     have HU := Aside0.mk (mem_ends.1 hu)
     clear hva hvb hO hlo hlx hlk hkey hR hat hne hu hown hg3 hs3 hf hol hoi hho hh3 hrg3 hlt3 hfit h2 hc0 hc1 hBog hgr hBor hBom hab hj hg1 hg2
     go_wp2_with fail
     go_quiet (fail)
     (try simp only [hmn])
     clear hmn
     obtain ⟨w4, hw4⟩ : ∃ w4, w4 = w3.drewN nq := ⟨_, rfl⟩
     rw [← hw4]
     have HH4 : Aside0 (w4.heap[Bo]? = some (.cells (nums .i64 (ints O)).toArray 3 (0, 0))) := ⟨by rw [hw4]; exact HH3.out⟩
     have HW4 := Aside0.mk hw4
     have hk0 : w4.cell? ⟨g, 0, none⟩ = some (.int .i64 (a : Int)) := by rw [hw4]; exact hk0
     have hk1 : w4.cell? ⟨g, 1, none⟩ = some (.int .i64 (b : Int)) := by rw [hw4]; exact hk1
     have hxa : w4.cell? ⟨Bo, a, none⟩ = some (.int .i64 (va : Int)) := by rw [hw4]; exact hxa
     have hfa := blk_frozen HH4.out a
     have hb4 := blk_set HH4.out a (.int .i64 (lo : Int))
     rw [nums_set] at hb4
     have hxb4 := (blk_cell hb4 b).trans (nums_get _ b (by rw [List.length_set, HOI.out, HFO.out.len]; exact hb))
     have hfb := blk_frozen hb4 b
     have HB4 := Aside0.mk hb4
     clear hw4 hb4
     go_wp2_with fail
     go_region
     all_goals
      have HG5 : Aside0 (w3.grownBy ((w4.setCell ⟨Bo, a, none⟩ (.int .i64 (lo : Int))).setCell ⟨Bo, b, none⟩ (.int .i64 (lo : Int))).drew (some Bo)) := ⟨grown_drew (grown_set (grown_set (by rw [HW4.out]; exact grown_drewN (grown_refl _ _) _) _ _) _ _)⟩
      have HR5 := Aside0.mk (HRG3.out.kept HG5.out (by simp; exact Ne.symm HBOM.out) (by simp; exact Ne.symm HBOR.out))
      have HH5 : Aside0 (((w4.setCell ⟨Bo, a, none⟩ (.int .i64 (lo : Int))).setCell ⟨Bo, b, none⟩ (.int .i64 (lo : Int))).drew.heap[Bo]? = some (.cells (nums .i64 (ints ((L ++ [x]).foldl (relax I) out))).toArray 3 (0, 0))) := ⟨by
       have e : (L ++ [x]).foldl (relax I) out = relax2 O a b := by
        rw [List.foldl_append, ← HOE.out]
        show relax I O x = _
        unfold relax; rw [HAB.out]; rfl
       have h := blk_drew (blk_set HB4.out b (.int .i64 (lo : Int)))
       rw [nums_set, ints_put, ints_put, HLO.out] at h
       rw [e, HLO.out]
       exact h⟩
      go_wp2_with fail
      go_roundw
      case rel =>
       refine ⟨_, cnt3, L ++ [x], HR5, ⟨fun e => ?_⟩, ⟨fun e he => ?_⟩, HH5, ⟨grown_trans HG3.out HG5.out⟩⟩
       ·show (left (keyL e) && !(keyL e).sameKey (keyL x)) = _
        rw [HLE.out e, same_keyL]
        exact left_step _ _ _ _
       ·rcases List.mem_append.1 he with q | q
        ·exact HLI.out e q
        ·rw [List.mem_singleton] at q; rw [q]; exact ⟨_, HU.out⟩
      case measure => rw [HR5.out.left_eq, HRG.out.left_eq]; exact HLT3.out
end
section
open Go.RowKit Go.Proofs.YtmeggliapebkgaaW.PrintWords Go.Proofs.YtmeggliapebkgaaW.PrintLast Go.Proofs.YtmeggliapebkgaaW.PrintMore
attribute [local go_sem] max2_int min2_int max_two min_two max_three min_three max_four min_four   
set_option linter.unusedVariables false
set_option linter.unusedSimpArgs false
open Go.Proofs.Ytmeggliapebkgaa.Mem Go.Proofs.Ytmeggliapebkgaa.Web Go.Proofs.Ytmeggliapebkgaa.Pure Go.Maps
def firstT : List Bool → Nat → Int
 | [], _ => -1
 | b :: l, i => if b = true then (i : Int) else firstT l (i + 1)
theorem firstT_ge : ∀ (l : List Bool) (i : Nat), decide (0 ≤ firstT l i) = l.any id
 | [], _ => rfl
 | b :: l, i => by
  rw [firstT, List.any_cons]
  cases b with
  | true => rw [if_pos rfl]; simp
  | false => rw [if_neg (by simp)]; simpa using firstT_ge l (i + 1)
theorem firstT_skip {l : List Bool} : ∀ x, x ≤ l.length → (l.take x).any id = false → firstT l 0 = firstT (l.drop x) x
 | 0, _, _ => rfl
 | x + 1, hx, h => by
  rw [List.take_succ_eq_append_getElem (by omega), List.any_append] at h
  simp only [Bool.or_eq_false_iff] at h
  rw [firstT_skip x (by omega) h.1, List.drop_eq_getElem_cons (by omega), firstT]
  have h2 := h.2
  simp only [List.any_cons, List.any_nil, Bool.or_false, id] at h2
  rw [if_neg (by rw [h2]; simp)]
set_option maxHeartbeats 2000000 in
set_option maxRecDepth 100000 in
theorem web_1 (A : Option Addr) (n c : Nat) (w : World) : Calls Try.prog 103 #[.slice A n c] w fun e w' => e = .returned (.bool (n != 3)) ∧ w' = w := by
 cases h : (n != 3) with
 | true =>
  have h3 : n ≠ 3 := by simpa using h
  have t1 : ((n : Int) == 3) = false := by simp; omega
  go_enter Try.func103, Try.ntmps103
  go_wp2
  go_ret
  exact ⟨by first | rfl | (simp; omega), rfl⟩
 | false =>
  have t1 : n = 3 := by simpa using h
  subst t1
  go_enter Try.func103, Try.ntmps103
  go_wp2
  go_ret
  exact ⟨by first | rfl | simp, rfl⟩
set_option maxHeartbeats 2000000 in
set_option maxRecDepth 100000 in
theorem web_IndexFunc (forks : List (List Int)) (hl : forks.length ≤ 1000) (A : Option Addr) (c : Nat) (w : World) (hr : Kd.C (Kd.slice 2 (Kd.int .i64)) w A forks.length forks) :
  Calls Try.prog 149 #[.slice A forks.length c, .func (.func 103) #[] #[]] w fun e w' => e = .returned (.int .i64 (firstT (forks.map fun f => f.length != 3) 0)) ∧ ∃ nd, w' = w.drewN nd := by
 have HR := Aside0.mk hr
 obtain ⟨n, hn⟩ : ∃ n, n = forks.length := ⟨_, rfl⟩
 rw [← hn]
 have HN := Aside0.mk hn
 have hr : Kd.C (Kd.slice 2 (Kd.int .i64)) w A n forks := by rw [hn]; exact hr
 have HRN := Aside0.mk hr
 obtain ⟨bs, hbs⟩ : ∃ bs, bs = forks.map fun f => f.length != 3 := ⟨_, rfl⟩
 have HBS := Aside0.mk hbs
 have hbl : bs.length = n := by rw [hbs, hn]; simp
 have HBL := Aside0.mk hbl
 rw [← hbs]
 have hn1 : n ≤ 1000 := by omega
 clear hr hbs hbl hn
 go_enter Try.func149, Try.ntmps149
 go_wp2
 go_loopw [8] (fun i wr => ∃ x : Nat, i = .int .i64 (x : Int) ∧ Aside0 (x ≤ n) ∧ Aside0 ((bs.take x).any id = false) ∧ ∃ nd, wr = w.drewN nd)
  (fun i _ => n - (intOf i).toNat)
 case atStart => exact ⟨0, rfl, ⟨Nat.zero_le _⟩, ⟨rfl⟩, 0, rfl⟩
 case round =>
  obtain ⟨x, rfl, HX, HA, nd, rfl⟩ := hrel
  by_cases hlt : x < n
  rotate_left
  ·have t1 : decide ((x : Int) < (n : Int)) = false := decide_eq_false (by omega)
   have t2 : decide (x < n) = false := decide_eq_false hlt
   have HXE := Aside0.mk (show x = n from by have := HX.out; omega)
   clear hlt
   go_wp2
   go_ret
   refine ⟨?_, _, rfl⟩
   rw [firstT_skip x (by rw [HBL.out]; exact HX.out) HA.out, List.drop_of_length_le (by rw [HBL.out, HXE.out]; exact Nat.le_refl _)]
   rfl
  have t1 : decide ((x : Int) < (n : Int)) = true := decide_eq_true (by omega)
  have t2 : decide (x < n) = true := decide_eq_true hlt
  obtain ⟨ad, Aa, ca, ead, hrow, hca, _⟩ := row_of_C HRN.out x hlt
  subst ead
  obtain ⟨ln, hln⟩ : ∃ ln, ln = (forks.getD x []).length := ⟨_, rfl⟩
  rw [← hln] at hrow
  have hb : bs.getD x false = (ln != 3) := by
   rw [HBS.out, List.getD_eq_getElem?_getD, List.getElem?_map, List.getElem?_eq_getElem (by rw [← HN.out]; exact hlt), hln, List.getD_eq_getElem?_getD, List.getElem?_eq_getElem (by rw [← HN.out]; exact hlt)]; rfl
  have HD := Aside0.mk (show bs.drop x = (ln != 3) :: bs.drop (x + 1) from by
   rw [List.drop_eq_getElem_cons (by rw [HBL.out]; exact hlt), ← hb, List.getD_eq_getElem?_getD, List.getElem?_eq_getElem (by rw [HBL.out]; exact hlt)]; rfl)
  have HT := Aside0.mk (show bs.take (x + 1) = bs.take x ++ [ln != 3] from by
   rw [List.take_succ_eq_append_getElem (by rw [HBL.out]; exact hlt), ← hb, List.getD_eq_getElem?_getD, List.getElem?_eq_getElem (by rw [HBL.out]; exact hlt)]; rfl)
  have HLT := Aside0.mk hlt
  clear hln hb
  have hc := fun W => web_1 Aa ln ca W
  cases hv : (ln != 3) with
  | true =>
   have HV := Aside0.mk hv
   rw [hv] at hc
   have HCC := Aside0.mk hc
   clear hv hc
   go_wp2_with (first | (go_at_call 103; refine (HCC.out _).mono ?_; rintro e w2 ⟨rfl, rfl⟩))
   go_ret
   refine ⟨?_, _, rfl⟩
   rw [firstT_skip x (by rw [HBL.out]; exact HX.out) HA.out, HD.out, firstT, HV.out, if_pos rfl]
   rfl
  | false =>
   have HV := Aside0.mk hv
   rw [hv] at hc
   have HCC := Aside0.mk hc
   clear hv hc
   go_wp2_with (first | (go_at_call 103; refine (HCC.out _).mono ?_; rintro e w2 ⟨rfl, rfl⟩))
   go_roundw
   case rel => exact ⟨x + 1, (by first | rfl | exact congrArg _ (wS (by omega))), ⟨HLT.out⟩, ⟨by rw [HT.out, List.any_append, HA.out, HV.out]; rfl⟩, _, rfl⟩
   case measure => (try rw [wS (by omega)]); simp [intOf]; omega
set_option maxHeartbeats 2000000 in
set_option maxRecDepth 100000 in
theorem web_ContainsFunc (forks : List (List Int)) (hl : forks.length ≤ 1000) (A : Option Addr) (c : Nat) (w : World) (hr : Kd.C (Kd.slice 2 (Kd.int .i64)) w A forks.length forks) :
  Calls Try.prog 102 #[.slice A forks.length c, .func (.func 103) #[] #[]] w fun e w' => e = .returned (.bool ((forks.map fun f => f.length != 3).any id)) ∧ ∃ nd, w' = w.drewN nd := by
 have HI := Aside0.mk (firstT_ge (forks.map fun f => f.length != 3) 0)
 have HR := Aside0.mk hr
 have HL := Aside0.mk hl
 clear hr hl
 go_enter Try.func102, Try.ntmps102
 go_wp2_with (first | (go_at_call 149; refine (web_IndexFunc forks HL.out A c _ HR.out).mono ?_; rintro e w1 ⟨rfl, ⟨nd, rfl⟩⟩))
 go_ret
 exact ⟨by rw [← HI.out]; rfl, _, rfl⟩
set_option maxHeartbeats 2000000 in
set_option maxRecDepth 100000 in
theorem web_2 (x nl : Nat) (Bw : Nat) (v : Value) (Al : Option Addr) (cl : Nat) (w : World) (h : w.cell? ⟨Bw, 0, none⟩ = some (.slice Al nl cl)) : Calls Try.prog 106 #[.int .i64 (x : Int), .pointer (some ⟨Bw, 0, none⟩)] w fun e w' => e = .returned (.bool (decide (nl ≤ x))) ∧ w' = w := by
 have t1 : decide ((nl : Int) ≤ (x : Int)) = decide (nl ≤ x) := by rw [decide_eq_decide]; omega
 go_enter Try.func106, Try.ntmps106
 go_wp2
 go_ret
 exact ⟨by first | rfl | simp [t1], rfl⟩
set_option maxHeartbeats 2000000 in
set_option maxRecDepth 100000 in
theorem web_IndexFunc2 (l : List Nat) (hl : l.length ≤ 1000) (A : Option Addr) (c nl Bw : Nat) (Al : Option Addr) (cl : Nat) (w : World) (hr : Kd.C (Kd.int .i64) w A (ints l).length (ints l)) (h1 : w.cell? ⟨Bw, 0, none⟩ = some (.slice Al nl cl)) :
  Calls Try.prog 150 #[.slice A (ints l).length c, .func (.func 106) #[] #[.pointer (some ⟨Bw, 0, none⟩)]] w fun e w' => e = .returned (.int .i64 (firstT (l.map fun x => decide (nl ≤ x)) 0)) ∧ ∃ nd, w' = w.drewN nd := by
 obtain ⟨n, hn⟩ : ∃ n, n = l.length := ⟨_, rfl⟩
 rw [ints_len, ← hn] at hr
 rw [ints_len, ← hn]
 have HRN := Aside0.mk hr
 have HN := Aside0.mk hn
 have H1 := Aside0.mk h1
 obtain ⟨bs, hbs⟩ : ∃ bs, bs = l.map fun x => decide (nl ≤ x) := ⟨_, rfl⟩
 have HBS := Aside0.mk hbs
 have hbl : bs.length = n := by rw [hbs, hn]; simp
 have HBL := Aside0.mk hbl
 rw [← hbs]
 have hn1 : n ≤ 1000 := by omega
 clear hr hbs hbl hn h1
 go_enter Try.func150, Try.ntmps150
 go_wp2
 go_loopw [8] (fun i wr => ∃ x : Nat, i = .int .i64 (x : Int) ∧ Aside0 (x ≤ n) ∧ Aside0 ((bs.take x).any id = false) ∧ ∃ nd, wr = w.drewN nd)
  (fun i _ => n - (intOf i).toNat)
 case atStart => exact ⟨0, rfl, ⟨Nat.zero_le _⟩, ⟨rfl⟩, 0, rfl⟩
 case round =>
  obtain ⟨x, rfl, HX, HA, nd, rfl⟩ := hrel
  by_cases hlt : x < n
  rotate_left
  ·have t1 : decide ((x : Int) < (n : Int)) = false := decide_eq_false (by omega)
   have t2 : decide (x < n) = false := decide_eq_false hlt
   have HXE := Aside0.mk (show x = n from by have := HX.out; omega)
   clear hlt
   go_wp2
   go_ret
   refine ⟨?_, _, rfl⟩
   rw [firstT_skip x (by rw [HBL.out]; exact HX.out) HA.out, List.drop_of_length_le (by rw [HBL.out, HXE.out]; exact Nat.le_refl _)]
   rfl
  have t1 : decide ((x : Int) < (n : Int)) = true := decide_eq_true (by omega)
  have t2 : decide (x < n) = true := decide_eq_true hlt
  obtain ⟨ad, ead, hcell⟩ := cell_of_C HRN.out x hlt
  subst ead
  rw [ints_getD l x (by rw [← HN.out]; exact hlt)] at hcell
  obtain ⟨y, hy⟩ : ∃ y, y = l.getD x 0 := ⟨_, rfl⟩
  rw [← hy] at hcell
  have hb : bs.getD x false = decide (nl ≤ y) := by
   rw [HBS.out, List.getD_eq_getElem?_getD, List.getElem?_map, List.getElem?_eq_getElem (by rw [← HN.out]; exact hlt), hy, List.getD_eq_getElem?_getD, List.getElem?_eq_getElem (by rw [← HN.out]; exact hlt)]; rfl
  have HD := Aside0.mk (show bs.drop x = decide (nl ≤ y) :: bs.drop (x + 1) from by
   rw [List.drop_eq_getElem_cons (by rw [HBL.out]; exact hlt), ← hb, List.getD_eq_getElem?_getD, List.getElem?_eq_getElem (by rw [HBL.out]; exact hlt)]; rfl)
  have HT := Aside0.mk (show bs.take (x + 1) = bs.take x ++ [decide (nl ≤ y)] from by
   rw [List.take_succ_eq_append_getElem (by rw [HBL.out]; exact hlt), ← hb, List.getD_eq_getElem?_getD, List.getElem?_eq_getElem (by rw [HBL.out]; exact hlt)]; rfl)
  have HLT := Aside0.mk hlt
  clear hy hb
  have hc := fun nd => web_2 y nl Bw undef Al cl (w.drewN nd) H1.out
  cases hv : decide (nl ≤ y) with
  | true =>
   have HV := Aside0.mk hv
   rw [hv] at hc
   have HCC := Aside0.mk hc
   clear hv hc
   go_wp2_with (first | (go_at_call 106; refine (HCC.out _).mono ?_; rintro e w2 ⟨rfl, rfl⟩))
   go_ret
   refine ⟨?_, _, rfl⟩
   rw [firstT_skip x (by rw [HBL.out]; exact HX.out) HA.out, HD.out, firstT, HV.out, if_pos rfl]
   rfl
  | false =>
   have HV := Aside0.mk hv
   rw [hv] at hc
   have HCC := Aside0.mk hc
   clear hv hc
   go_wp2_with (first | (go_at_call 106; refine (HCC.out _).mono ?_; rintro e w2 ⟨rfl, rfl⟩))
   go_roundw
   case rel => exact ⟨x + 1, (by first | rfl | exact congrArg _ (wS (by omega))), ⟨HLT.out⟩, ⟨by rw [HT.out, List.any_append, HA.out, HV.out]; rfl⟩, _, rfl⟩
   case measure => (try rw [wS (by omega)]); simp [intOf]; omega
set_option maxHeartbeats 2000000 in
set_option maxRecDepth 100000 in
theorem web_ContainsFunc2 (l : List Nat) (hl : l.length ≤ 1000) (A : Option Addr) (c nl Bw : Nat) (Al : Option Addr) (cl : Nat) (w : World) (hr : Kd.C (Kd.int .i64) w A (ints l).length (ints l)) (h1 : w.cell? ⟨Bw, 0, none⟩ = some (.slice Al nl cl)) :
  Calls Try.prog 104 #[.slice A (ints l).length c, .func (.func 106) #[] #[.pointer (some ⟨Bw, 0, none⟩)]] w fun e w' => e = .returned (.bool ((l.map fun x => decide (nl ≤ x)).any id)) ∧ ∃ nd, w' = w.drewN nd := by
 have HI := Aside0.mk (firstT_ge (l.map fun x => decide (nl ≤ x)) 0)
 have HR := Aside0.mk hr
 have HL := Aside0.mk hl
 have H1 := Aside0.mk h1
 clear hr hl h1
 go_enter Try.func104, Try.ntmps104
 go_wp2_with (first | (go_at_call 150; refine (web_IndexFunc2 l HL.out A c nl Bw Al cl _ HR.out H1.out).mono ?_; rintro e w1 ⟨rfl, ⟨nd, rfl⟩⟩))
 go_ret
 exact ⟨by rw [← HI.out]; rfl, _, rfl⟩
def wfW (legs : List Int) (forks : List (List Int)) : Bool := (inc legs forks).all fun p => (Lit.int .i64 p.1).wf
def impl_IsWeb.f (l0_0 : List Int) (l0_1 : List (List Int)) : Option Bool := if l0_0.length ≤ 17592186044416 ∧ l0_1.length ≤ 17592186044416 ∧ wfW l0_0 l0_1 = true then some (isWebC l0_0 l0_1) else none
theorem any_len (forks : List (List Int)) : (forks.map fun f => f.length != 3).any id = !(forks.all fun f => f.length == 3) := by
 induction forks with
 | nil => rfl
 | cons f F ih =>
  rw [List.map_cons, List.any_cons, ih, List.all_cons]
  show ((f.length != 3) || _) = _
  cases h : (f.length == 3) <;> simp [h, bne]
theorem any_root (n nl : Nat) (r : Nat → Nat) : (((List.range n).map r).map fun x => decide (nl ≤ x)).any id = !((List.range n).all fun v => decide (r v < nl)) := by
 induction List.range n with
 | nil => rfl
 | cons f F ih =>
  rw [List.map_cons, List.map_cons, List.any_cons, ih, List.all_cons]
  show (decide (nl ≤ r f) || _) = _
  by_cases h : r f < nl
  rotate_left
  ·rw [decide_eq_false h, decide_eq_true (by omega)]; simp
  rw [decide_eq_true h, decide_eq_false (by omega)]; simp
set_option maxHeartbeats 4000000 in
set_option maxRecDepth 100000 in
theorem isWeb_walk (legs : List Int) (forks : List (List Int)) (Al : Option Addr) (cl : Nat) (Af : Option Addr) (cf : Nat) (h1 : legs.length ≤ 17592186044416) (h2 : forks.length ≤ 17592186044416) (hwf : ∀ p ∈ inc legs forks, (Lit.int .i64 p.1).wf = true) (w : World)
  (hl : Kd.C (Kd.int .i64) w Al legs.length legs) (hf : Kd.C (Kd.slice 2 (Kd.int .i64)) w Af forks.length forks) :
  Calls Try.prog 49 #[.agg #[.slice Al legs.length cl, .slice Af forks.length cf]] w fun e w' => e = .returned (.bool (isWebB legs forks)) ∧ Below w.heap.size w w' := by
 obtain ⟨N, hN⟩ : ∃ N, N = legs.length + forks.length := ⟨_, rfl⟩
 obtain ⟨I, hI⟩ : ∃ I, I = inc legs forks := ⟨_, rfl⟩
 obtain ⟨res, hres⟩ : ∃ res, res = isWebB legs forks := ⟨_, rfl⟩
 rw [← hres]
 have HRES := Aside0.mk hres
 unfold isWebB at hres
 have HBK := Aside0.mk (show (w.alloc (.cells #[.slice Al legs.length cl, .slice Af forks.length cf] 30)).heap[w.heap.size]? = some (.cells #[.slice Al legs.length cl, .slice Af forks.length cf] 30 (0, 0)) from new_at rfl)
 have HB1 := Aside0.mk (show Below w.heap.size w (w.alloc (.cells #[.slice Al legs.length cl, .slice Af forks.length cf] 30)) from below_alloc (Below.refl _ _) _)
 have c1 : (w.alloc (.cells #[.slice Al legs.length cl, .slice Af forks.length cf] 30)).cell? ⟨w.heap.size, 1, none⟩ = some (.slice Af forks.length cf) := (blk_cell HBK.out 1).trans rfl
 have HL := Aside0.mk hl
 have HF := Aside0.mk hf
 have HH1 := Aside0.mk h1
 have HH2 := Aside0.mk h2
 have HWF := Aside0.mk hwf
 have HN := Aside0.mk hN
 have HI := Aside0.mk hI
 by_cases h8 : 8 < N
 ·have t1 : decide ((8 : Int) < (N : Int)) = true := decide_eq_true (by omega)
  have t2 : decide (8 < N) = true := decide_eq_true h8
  have HE := Aside0.mk (show res = false from by rw [hres, decide_eq_false (by omega)]; rfl)
  clear hl hf h1 h2 hwf hN hI hres c1
  go_enter Try.func49, Try.ntmps49
  go_wp2_with (first
   | (go_at_call 101; refine (nodes_walk legs.length forks.length w.heap.size Al cl Af cf (by have := HH1.out; have := HH2.out; omega) _ HBK.out).mono ?_; rintro e w1 ⟨rfl, ⟨nd, rfl⟩⟩; rw [← HN.out]))
  go_ret
  exact ⟨by rw [HE.out]; rfl, pw_below_drewN HB1.out _⟩
 have t1 : decide ((8 : Int) < (N : Int)) = false := decide_eq_false (by omega)
 have t2 : decide (8 < N) = false := decide_eq_false h8
 have H8 := Aside0.mk (show N ≤ 8 from by omega)
 rw [decide_eq_true (show legs.length + forks.length ≤ 8 from by omega), Bool.true_and] at hres
 cases ha : (forks.all fun f => f.length == 3) with
 | false =>
  rw [ha, Bool.false_and, Bool.false_and] at hres
  have HA := Aside0.mk ha
  have HE := Aside0.mk hres
  clear hl hf h1 h2 hwf hN hI hres ha
  go_enter Try.func49, Try.ntmps49
  go_wp2_with (first
   | (go_at_call 101; refine (nodes_walk legs.length forks.length w.heap.size Al cl Af cf (by have := H8.out; have := HN.out; omega) _ HBK.out).mono ?_; rintro e w1 ⟨rfl, ⟨nd, rfl⟩⟩; rw [← HN.out])
   | (go_at_call 102; refine (web_ContainsFunc forks (by have := H8.out; have := HN.out; omega) Af cf _ (Kd.C_drewN (Kd.C_below HF.out HB1.out) _)).mono ?_; rw [any_len, HA.out]; rintro e w1 ⟨rfl, ⟨nd2, rfl⟩⟩))
  go_ret
  exact ⟨by rw [HE.out]; rfl, pw_below_drewN HB1.out _⟩
 | true =>
  rw [ha, Bool.true_and] at hres
  have HA := Aside0.mk ha
  have H3 := Aside0.mk (show ∀ f ∈ forks, f.length = 3 from fun f hf => eq_of_beq (List.all_eq_true.1 ha f hf))
  have HE := Aside0.mk hres
  clear hl hf h1 h2 hwf hN hI hres ha
  go_enter Try.func49, Try.ntmps49
  go_wp2_with (first
   | (go_at_call 101; refine (nodes_walk legs.length forks.length w.heap.size Al cl Af cf (by have := H8.out; have := HN.out; omega) _ HBK.out).mono ?_; rintro e w1 ⟨rfl, ⟨nd, rfl⟩⟩; rw [← HN.out])
   | (go_at_call 102; refine (web_ContainsFunc forks (by have := H8.out; have := HN.out; omega) Af cf _ (Kd.C_drewN (Kd.C_below HF.out HB1.out) _)).mono ?_; rw [any_len, HA.out]; rintro e w1 ⟨rfl, ⟨nd2, rfl⟩⟩)
   | (go_at_call 50; refine (stands_walk legs forks w.heap.size Al cl Af cf (by have := H8.out; have := HN.out; omega) H3.out HWF.out _ (blk_drewN HBK.out _) (Kd.C_drewN (Kd.C_below HL.out HB1.out) _) (Kd.C_drewN (Kd.C_below HF.out HB1.out) _)).mono ?_; rintro e w1 ⟨rfl, hgr1, hb1⟩; have hb2 := below_step (pw_below_drewN HB1.out _) hb1; generalize hM : (World.drewN _ _).heap.size = Bm at hgr1 ⊢; have HBM := Aside0.mk hM; have HGR := Aside0.mk hgr1; have HBB := Aside0.mk hb2; have hs1 := hb1.size; have HBS := Aside0.mk hb1; clear hgr1 hb1 hb2 hM hs1)
   | (at_range; refine wpList_range_own _ rfl _ 76 rfl 2 72 webKey Try.underlying76 _ _ (inc legs forks).length _ rfl (groups_own HGR.out) ?_; intro w2 hrg2 hg2 hs2)
   | go_in)
  go_frame
  rw [← HI.out] at hrg2
  have HRG2 := Aside0.mk hrg2
  have HG2 := Aside0.mk hg2
  have HL2 : Aside0 (∀ e, Maps.has (GTo I I.length) (keyL e) = ((!(ends I e).isEmpty) && !([] : List Int).contains e)) := ⟨fun e => by
   have h := GTo_has I e I.length (Nat.le_refl _)
   rw [List.take_length] at h
   rw [h]; simp⟩
  have HBK1 := Aside0.mk (blk_below (blk_drewN HBK.out _) HBS.out)
  have HLEN := Aside0.mk (show I.length ≤ 24 from by rw [HI.out, inc_len H3.out]; have := H8.out; have := HN.out; omega)
  clear hrg2 hg2 hs2
  go_loopw [3] (fun _ wr => ∃ (left : Lit → Bool) (cnt : Nat) (L : List Int), Aside0 (wr.ranges Try.prog 2 (rowElem (H := Unit) w1 (Bm + 1) 3 .i64) Bm w1.heap.size I.length (GTo I I.length) left cnt) ∧ Aside0 (∀ e, left (keyL e) = ((!(ends I e).isEmpty) && !L.contains e)) ∧ Aside0 (∀ e ∈ L, (0 ≤ e ∧ e ≤ 1000) ∧ (ends I e).length = 2) ∧ Aside0 (w1.grownBy wr none))
   (fun _ wr => wr.rangeLeft Bm w1.heap.size)
  case atStart => exact ⟨_, _, [], HRG2, HL2, ⟨by simp⟩, HG2⟩
  case round =>
   clear HRG2 HL2 HG2
   obtain ⟨left, cnt, L, HRG, HLE, HLI, HG⟩ := hrel
   go_wp2_with (first
    | (at_next; refine wpList_next_ranges (α := Int) (β := Value) _ rfl _ rfl 2 webKey (rowElem (H := Unit) w1 (Bm + 1) 3 .i64) (Value.int .i64) id (fun key kl h => inv_key h) (fun v y _ => ⟨v, rfl⟩) Bm w1.heap.size I.length (GTo I I.length) left cnt rfl HRG.out ?_ ?_)
    | go_in)
   ·intro hc0 hl0
    have htw : twiceB legs forks = true := by
     unfold twiceB
     rw [← HI.out, List.all_eq_true]
     intro p hp
     have h := HLE.out p.1
     rw [hl0] at h
     have hu := mem_ends.2 (show (p.1, p.2) ∈ I from hp)
     have hc : L.contains p.1 = true := by
      cases hc : L.contains p.1 with
      | true => rfl
      | false =>
       rw [hc] at h
       cases hh : ends I p.1 with
       | nil => rw [hh] at hu; exact absurd hu (by simp)
       | cons _ _ => rw [hh] at h; simp at h
     have := HLI.out p.1 (List.contains_iff_mem.1 hc)
     rw [decide_eq_true this.1, this.2]; rfl
    have hb := below_step HBB.out (grown_below HG.out)
    have hres : res = rootedB legs forks := by rw [HE.out, htw, Bool.true_and]
    have HRS := Aside0.mk hres
    have HTW := Aside0.mk (twice_two htw)
    have HBR := Aside0.mk hb
    have HBKR := Aside0.mk (blk_grown HBK1.out HG.out (by simp))
    have hmf : ∀ (fn : Fn) (first cap : Array Value) (w : World), (Instr.makeFunc fn first cap).run Try.prog w = .ok (.func fn first cap) w := fun _ _ _ _ => rfl
    clear htw hb hres hl0 hc0
    go_wp2_with (first
     | (go_at_call 105; refine (partsOf_walk legs forks N w.heap.size Al cl Af cf HN.out H8.out H3.out HWF.out (by rw [HN.out]; exact HTW.out) _ HBKR.out (Kd.C_below HL.out HBR.out) (Kd.C_below HF.out HBR.out)).mono ?_; rintro e w5 ⟨v5, rfl, ho5, hb5⟩; obtain ⟨A5, c5, rfl, hl5, hC5⟩ := Kd.R_reads ho5; have HC5 := Aside0.mk hC5; have HB5 := Aside0.mk hb5; have HBK5 := Aside0.mk (blk_below HBKR.out hb5); clear ho5 hb5 hl5 hC5)
     | (go_at_call 104; refine (web_ContainsFunc2 ((List.range N).map (lbl (inc legs forks))) (by have := H8.out; simp; omega) A5 c5 legs.length w.heap.size Al cl _ HC5.out ((blk_cell HBK5.out 0).trans rfl)).mono ?_; rw [any_root]; rintro e w6 ⟨rfl, ⟨nd6, rfl⟩⟩))
    go_ret
    refine ⟨?_, pw_below_drewN (below_step HBR.out HB5.out) _⟩
    rw [HRS.out, rootedB, ← HN.out]
    first | rfl | simp
   ·intro x c kl d ps w3 cnt3 hkey hlk hR hat hrg3 hlt3 hg3 hs3 hen
    obtain ⟨rfl, hown, hne⟩ := come_of hkey hR hat
    obtain ⟨u, hu⟩ := List.exists_mem_of_ne_nil _ hne
    obtain ⟨A4, c4, rfl⟩ := Kd.R_slice (R_of_own hown.1)
    rw [ints_len] at hen
    obtain ⟨ln, hln⟩ : ∃ ln, ln = (ends I x).length := ⟨_, rfl⟩
    rw [← hln] at hen
    simp only [ints_len, ← hln]
    have HLN := Aside0.mk hln
    have HU := Aside0.mk (mem_ends.1 hu)
    have HLK := Aside0.mk hlk
    have HLT3 := Aside0.mk hlt3
    have HRG3 := Aside0.mk hrg3
    have HG3 := Aside0.mk (HG.out.andThen hg3 (fun j hj => by cases hj; exact Or.inl (Nat.le_refl _)) : w1.grownBy w3 none)
    have HIN := Aside0.mk (in_f x 0 1000)
    clear hln hu hne hown hR hat hkey hlk hlt3 hrg3 hg3 hs3
    have hbad : ¬ ((0 ≤ x ∧ x ≤ 1000) ∧ ln = 2) → res = false := by
     intro hb
     rw [HE.out]
     have : twiceB legs forks = false := by
      cases htw : twiceB legs forks with
      | false => rfl
      | true =>
       exfalso
       unfold twiceB at htw
       rw [← HI.out] at htw
       have := List.all_eq_true.1 htw _ HU.out
       simp only [Bool.and_eq_true, decide_eq_true_eq, beq_iff_eq] at this
       exact hb ⟨this.1, by rw [HLN.out]; exact this.2⟩
     rw [this]; rfl
    have HBAD := Aside0.mk hbad
    clear hbad
    have hbel := Aside0.mk (below_step HBB.out (grown_below HG3.out))
    cases hin : decide (0 ≤ x ∧ x ≤ 1000) with
    | false =>
     have HE2 := Aside0.mk (HBAD.out (fun h => by rw [decide_eq_true h.1] at hin; exact absurd hin (by simp)))
     have HIN2 := Aside0.mk (HIN.out.trans (congrArg some hin))
     clear hin
     go_wp2_with (first
      | (go_at_call 66; refine (impl_in.calls x 0 1000 false _ HIN2.out).mono ?_; rintro e w4 ⟨rfl, ⟨⟨nd4, rfl⟩⟩⟩))
     go_ret
     exact ⟨by rw [HE2.out]; rfl, pw_below_drewN hbel.out _⟩
    | true =>
     have HIN2 := Aside0.mk (HIN.out.trans (congrArg some hin))
     have HIX := Aside0.mk (of_decide_eq_true hin)
     clear hin
     by_cases h2 : ln = 2
     rotate_left
     ·have t3 : ((ln : Int) == 2) = false := by simp; omega
      have HE2 := Aside0.mk (HBAD.out (fun h => h2 h.2))
      clear h2
      go_wp2_with (first
       | (go_at_call 66; refine (impl_in.calls x 0 1000 true _ HIN2.out).mono ?_; rintro e w4 ⟨rfl, ⟨⟨nd4, rfl⟩⟩⟩))
      go_ret
      exact ⟨by rw [HE2.out]; rfl, pw_below_drewN hbel.out _⟩
     have t3 : ((ln : Int) == 2) = true := by simp; omega
     have H22 := Aside0.mk h2
     clear h2
     go_wp2_with (first
      | (go_at_call 66; refine (impl_in.calls x 0 1000 true _ HIN2.out).mono ?_; rintro e w4 ⟨rfl, ⟨⟨nd4, rfl⟩⟩⟩))
     go_roundw
     case rel =>
      refine ⟨_, cnt3, L ++ [x], ⟨HRG3.out.kept (grown_drewN (grown_refl _ none) _) (by simp) (by simp)⟩, ⟨fun e => ?_⟩, ⟨fun e he => ?_⟩, ⟨grown_drewN HG3.out _⟩⟩
      ·show (left (keyL e) && !(keyL e).sameKey (keyL x)) = _
       rw [HLE.out e, same_keyL]
       exact left_step _ _ _ _
      ·rcases List.mem_append.1 he with q | q
       ·exact HLI.out e q
       ·rw [List.mem_singleton] at q; rw [q]; exact ⟨HIX.out, by rw [← HLN.out]; exact H22.out⟩
     case measure =>
      have h1 := HRG3.out.left_eq
      have h2 := HRG.out.left_eq
      have h3 := HLT3.out
      show World.rangeLeft w3 Bm w1.heap.size < _
      rw [h1, h2]; exact h3
theorem impl_IsWeb.calls (A0_0 : Option Addr) (c0_0 : Nat) (l0_0 : List Int) (A0_1 : Option Addr) (c0_1 : Nat) (l0_1 : List (List Int)) (r : Bool) (w : World) (hr0_0 : Kd.C (Kd.int .i64) w A0_0 l0_0.length l0_0) (hc0_0 : l0_0.length ≤ c0_0) (hr0_1 : Kd.C (Kd.slice 2 (Kd.int .i64)) w A0_1 l0_1.length l0_1) (hc0_1 : l0_1.length ≤ c0_1) (h : impl_IsWeb.f l0_0 l0_1 = some r) :
  Calls Try.prog 49 #[.agg #[.slice A0_0 l0_0.length c0_0, .slice A0_1 l0_1.length c0_1]] w fun e w' => e = .returned (.bool r) ∧ Below w.heap.size w w' := by
 unfold impl_IsWeb.f at h
 by_cases hk : l0_0.length ≤ 17592186044416 ∧ l0_1.length ≤ 17592186044416 ∧ wfW l0_0 l0_1 = true
 rotate_left
 ·rw [if_neg hk] at h; exact absurd h (by simp)
 rw [if_pos hk] at h
 obtain rfl := Option.some.inj h
 rw [isWebC_eq]
 exact isWeb_walk l0_0 l0_1 A0_0 c0_0 A0_1 c0_1 hk.1 hk.2.1 (fun p hp => List.all_eq_true.1 hk.2.2 p hp) w hr0_0 hr0_1
end
end Go.Proofs.Ytmeggliapebkgaa.F
end
section
namespace Go.Proofs.Ytmeggliapebkgaa.F
open Go.RowKit Go.Proofs.YtmeggliapebkgaaW.PrintWords Go.Proofs.YtmeggliapebkgaaW.PrintLast Go.Proofs.YtmeggliapebkgaaW.PrintMore
attribute [local go_sem] max2_int min2_int max_two min_two max_three min_three max_four min_four   
set_option linter.unusedVariables false
set_option linter.unusedSimpArgs false
def slices_Contains_int64_int64.f (k : Nat) (l0 : List Int) (a1 : Int) : Option (Bool) := (slices_Index_int64_int64.f k l0 a1).bind fun t1271001 => (some (decide (t1271001 ≥ 0)))
theorem slices_Contains_int64_int64.mono : ∀ a0 a1 k, LeO (slices_Contains_int64_int64.f k a0 a1) (slices_Contains_int64_int64.f (k + 1) a0 a1) := by
  intro a0 a1 k
  unfold slices_Contains_int64_int64.f
  repeat' first
      | (with_reducible exact slices_Index_int64_int64.mono _ _ _)
      | (with_reducible exact LeO.refl _)
      | (with_reducible exact LeO.none _)
      | (with_reducible refine LeO.ite ?_ ?_)
      | (with_reducible refine LeO.bind ?_ (fun _ => ?_))
      | exact slices_Index_int64_int64.mono _ _ _
      | exact LeO.none _
      | refine LeO.ite ?_ ?_
      | refine LeO.bind ?_ (fun _ => ?_)
set_option maxHeartbeats 8000000 in
set_option maxRecDepth 100000 in
theorem slices_Contains_int64_int64.calls (k : Nat) (A0 : Option Addr) (c0 : Nat) (l0 : List Int) (a1 : Int) (r : Bool) (w : World) (hr0 : Kd.C (Kd.int .i64) w A0 l0.length l0) (hc0 : l0.length ≤ c0) (h : slices_Contains_int64_int64.f k l0 a1 = some r) :
    Calls Try.prog 127 #[.slice A0 l0.length c0, .int .i64 a1] w fun e w' => e = .returned (.bool r) ∧ Drawn0 w w' := by
  have HR0 := Aside0.mk hr0
  have HC0 := Aside0.mk hc0
  clear hr0 hc0
  have H : ((slices_Index_int64_int64.f k l0 a1).bind fun t1271001 => (some (decide (t1271001 ≥ 0)))) = some r := h
  clear h
  replace H := Option.bind_eq_some_iff.mp H
  obtain ⟨t1271001, A30, H⟩ := H
  replace H : (some (decide (t1271001 ≥ 0))) = some r := H
  have A3 := Aside0.mk A30
  clear A30
  obtain rfl := Option.some.inj H
  go_enter Try.func127, Try.ntmps127
  go_wp2_with (first | ((with_reducible refine gate_callee (f := 107) rfl ?_); refine goesL_ (some 7) rfl rfl Try.func107 (by kernel_rfl) rfl #[.slice A0 l0.length c0, .int .i64 a1] rfl (by (try simp only [List.map_toArray, List.map_cons, List.map_nil]); first | done | rfl | (simp only [List.length_drop, List.length_take]; rfl)) ?_; (with_reducible refine (slices_Index_int64_int64.calls k _ _ l0 a1 t1271001 _ ?side1 ?side2 A3.out).mono ?_); (case side1 => repeat (first | exact HR0.out | (with_reducible refine Kd.C_alloc ?_ _) | (with_reducible refine Kd.C_drewN ?_ _) | (with_reducible refine Kd.C_drew ?_))); (case side2 => exact HC0.out); rintro e w' ⟨rfl, ⟨nd, rfl⟩⟩; refine ⟨_, rfl, ?_⟩))
  go_ret
  exact ⟨by first | rfl | (simp; done) | (simp [*]; done), by repeat (first | exact Drawn0.refl _ | apply Drawn0.step)⟩
end Go.Proofs.Ytmeggliapebkgaa.F
end
section
namespace Go.Proofs.Ytmeggliapebkgaa.F
open Go.RowKit Go.Proofs.YtmeggliapebkgaaW.PrintWords Go.Proofs.YtmeggliapebkgaaW.PrintLast Go.Proofs.YtmeggliapebkgaaW.PrintMore
attribute [local go_sem] max2_int min2_int max_two min_two max_three min_three max_four min_four   
set_option linter.unusedVariables false
set_option linter.unusedSimpArgs false
def impl_isPrime.f (k : Nat) (a0 : Int) : Option (Bool) := (slices_Contains_int64_int64.f k (([2, 3, 5, 7, 11, 13] : List Int)) a0).bind fun t1171004 => (some t1171004)
theorem impl_isPrime.mono : ∀ a0 k, LeO (impl_isPrime.f k a0) (impl_isPrime.f (k + 1) a0) := by
  intro a0 k
  unfold impl_isPrime.f
  repeat' first
      | (with_reducible exact slices_Contains_int64_int64.mono _ _ _)
      | (with_reducible exact LeO.refl _)
      | (with_reducible exact LeO.none _)
      | (with_reducible refine LeO.ite ?_ ?_)
      | (with_reducible refine LeO.bind ?_ (fun _ => ?_))
      | exact slices_Contains_int64_int64.mono _ _ _
      | exact LeO.none _
      | refine LeO.ite ?_ ?_
      | refine LeO.bind ?_ (fun _ => ?_)
set_option maxHeartbeats 8000000 in
set_option maxRecDepth 100000 in
theorem impl_isPrime.calls (k : Nat) (a0 : Int) (r : Bool) (w : World) (h : impl_isPrime.f k a0 = some r) :
    Calls Try.prog 117 #[.int .i64 a0] w fun e w' => e = .returned (.bool r) ∧ Below w.heap.size w w' := by
  have HB := Aside0.mk (Below.refl w.heap.size w)
  have H : ((slices_Contains_int64_int64.f k (([2, 3, 5, 7, 11, 13] : List Int)) a0).bind fun t1171004 => (some t1171004)) = some r := h
  clear h
  obtain ⟨y1171001, hy1171001⟩ : ∃ y_ : List Int, y_ = (([2, 3, 5, 7, 11, 13] : List Int)) := ⟨_, rfl⟩
  replace H : ((slices_Contains_int64_int64.f k y1171001 a0).bind fun t1171004 => (some t1171004)) = some r := by first | (rw [hy1171001]; with_reducible exact H) | (have H2_ := (Option.bind_some _ _).symm.trans H; rw [hy1171001]; with_reducible exact H2_) | (have H2_ := (Option.bind_some _ _).symm.trans H; with_reducible exact H2_) | with_reducible exact H | (rw [hy1171001]; exact H) | exact H
  have Ny1171001 := Aside0.mk hy1171001
  clear hy1171001
  replace H := Option.bind_eq_some_iff.mp H
  obtain ⟨t1171004, A20, H⟩ := H
  replace H : (some t1171004) = some r := H
  have A2 := Aside0.mk A20
  clear A20
  obtain rfl := Option.some.inj H
  go_enter Try.func117, Try.ntmps117
  go_wp2_with (first | ((with_reducible refine gate_dst (N := 3) rfl ?_); refine Kd.R_lit (Kd.int .i64) _ 2 ?hg (N := 3) ?hd (xs := ([2, 3, 5, 7, 11, 13] : List Int)) (inner := [.int .i64 2, .int .i64 3, .int .i64 5, .int .i64 7, .int .i64 11, .int .i64 13]) (ok := fun _ => True) (okp := fun _ => True) ?hr ?hp (fun _ hk => hk) trivial (Below.refl _ _) (Nat.le_refl _) (by simp) ?_; (case hd => rfl); (case hg => rfl); (case hr => first | (go_simp; done) | (go_simp; rfl)); (case hp => exact (Reps.one (show Kd.M (Kd.int .i64) _ _ _ 2 [.int .i64 2] from rfl) (Reps.one (show Kd.M (Kd.int .i64) _ _ _ 3 [.int .i64 3] from rfl) (Reps.one (show Kd.M (Kd.int .i64) _ _ _ 5 [.int .i64 5] from rfl) (Reps.one (show Kd.M (Kd.int .i64) _ _ _ 7 [.int .i64 7] from rfl) (Reps.one (show Kd.M (Kd.int .i64) _ _ _ 11 [.int .i64 11] from rfl) (Reps.one (show Kd.M (Kd.int .i64) _ _ _ 13 [.int .i64 13] from rfl) (Reps.none _ _)))))))); intro v1171002 w3 ho4 hb hg_ hnew_; clear hg_ hnew_; (first | rw [← Ny1171001.out] at ho4 | (simp only [Int.reduceToNat] at ho4; rw [← Ny1171001.out] at ho4)); have n0_ := Aside0.mk (Kd.R_lower ho4 (below_size (by repeat (first | (with_reducible first | exact HB.out | apply below_alloc | apply pw_below_drewN | apply below_drew1) | exact HB.out)))); have n1_ := Aside0.mk (below_step (by repeat (first | (with_reducible first | exact HB.out | apply below_alloc | apply pw_below_drewN | apply below_drew1) | exact HB.out)) hb); clear HB; have HO1171003 := n0_; have HB := n1_; clear n0_ n1_; clear hb ho4; obtain ⟨Ao5, co5, eo5⟩ := Kd.R_slice HO1171003.out; subst eo5) | ((with_reducible refine gate_callee (f := 127) rfl ?_); refine goesL_ (some 5) rfl rfl Try.func127 (by kernel_rfl) rfl #[.slice Ao5 y1171001.length co5, .int .i64 a0] rfl (by (try simp only [List.map_toArray, List.map_cons, List.map_nil]); first | done | rfl | (simp only [List.length_drop, List.length_take]; rfl)) ?_; (with_reducible refine (slices_Contains_int64_int64.calls k _ _ y1171001 a0 t1171004 _ ?side1 ?side2 A2.out).mono ?_); (case side1 => repeat (first | exact (Kd.R_reads' HO1171003.out).2.2 | (with_reducible refine Kd.C_alloc ?_ _) | (with_reducible refine Kd.C_drewN ?_ _) | (with_reducible refine Kd.C_drew ?_))); (case side2 => exact (Kd.R_reads' HO1171003.out).2.1); rintro e w' ⟨rfl, ⟨nd, rfl⟩⟩; refine ⟨_, rfl, ?_⟩))
  go_ret
  exact ⟨by first | rfl | (simp [errW_none, errW_some] <;> rfl) | (simp [*, errW_none, errW_some] <;> rfl), by repeat (first | (with_reducible first | exact HB.out | apply below_alloc | apply pw_below_drewN | apply below_drew1) | exact HB.out)⟩
end Go.Proofs.Ytmeggliapebkgaa.F
end
section
namespace Go.Proofs.Ytmeggliapebkgaa.F
open Go.RowKit Go.Proofs.YtmeggliapebkgaaW.PrintWords Go.Proofs.YtmeggliapebkgaaW.PrintLast Go.Proofs.YtmeggliapebkgaaW.PrintMore
attribute [local go_sem] max2_int min2_int max_two min_two max_three min_three max_four min_four   
set_option linter.unusedVariables false
set_option linter.unusedSimpArgs false
def cmp_Or_int.l0 : Nat → Int → List Int → Int → Int → Option (Int)
  | 0, _, _, _, _ => none
  | k + 1, x3, x6, x7, x8 => if x8 < x7 then (if 0 ≤ x8 then (if x8 < (x6.length : Int) then (if (rd x6 x8) = x3 then (cmp_Or_int.l0 k x3 x6 x7 (wrap64 (x8 + 1))) else (some (rd x6 x8))) else (none)) else (none)) else (some x3)
def cmp_Or_int.f (k : Nat) (l0 : List Int) : Option (Int) := cmp_Or_int.l0 k 0 l0 (l0.length : Int) 0
theorem cmp_Or_int.mono_l : ∀ k, (∀ y0 y1 y2 y3, LeO (cmp_Or_int.l0 k y0 y1 y2 y3) (cmp_Or_int.l0 (k + 1) y0 y1 y2 y3))
  | 0 => fun _ _ _ _ r h => by simp [cmp_Or_int.l0] at h
  | k + 1 => by
    have ih0 := cmp_Or_int.mono_l k
    · intro y0 y1 y2 y3
      unfold cmp_Or_int.l0
      repeat' first
      | (with_reducible exact ih0 _ _ _ _)
      | (with_reducible exact LeO.refl _)
      | (with_reducible exact LeO.none _)
      | (with_reducible refine LeO.ite ?_ ?_)
      | (with_reducible refine LeO.bind ?_ (fun _ => ?_))
      | exact ih0 _ _ _ _
      | exact LeO.none _
      | refine LeO.ite ?_ ?_
      | refine LeO.bind ?_ (fun _ => ?_)
theorem cmp_Or_int.mono : ∀ a0 k, LeO (cmp_Or_int.f k a0) (cmp_Or_int.f (k + 1) a0) := by
  intro a0 k
  have ih0 := cmp_Or_int.mono_l k
  unfold cmp_Or_int.f
  repeat' first
      | (with_reducible exact ih0 _ _ _ _)
      | (with_reducible exact LeO.refl _)
      | (with_reducible exact LeO.none _)
      | (with_reducible refine LeO.ite ?_ ?_)
      | (with_reducible refine LeO.bind ?_ (fun _ => ?_))
      | exact ih0 _ _ _ _
      | exact LeO.none _
      | refine LeO.ite ?_ ?_
      | refine LeO.bind ?_ (fun _ => ?_)
set_option maxHeartbeats 8000000 in
set_option maxRecDepth 100000 in
theorem cmp_Or_int.calls (k : Nat) (A0 : Option Addr) (c0 : Nat) (l0 : List Int) (r : Int) (w : World) (hr0 : Kd.C (Kd.int .i64) w A0 l0.length l0) (hc0 : l0.length ≤ c0) (h : cmp_Or_int.f k l0 = some r) :
    Calls Try.prog 151 #[.slice A0 l0.length c0] w fun e w' => e = .returned (.int .i64 r) ∧ Drawn0 w w' := by
  have HR0 := Aside0.mk hr0
  have HC0 := Aside0.mk hc0
  clear hr0 hc0
  have H : (cmp_Or_int.l0 k 0 l0 (l0.length : Int) 0) = some r := h
  clear h
  have H' := Aside0.mk H
  clear H
  go_enter Try.func151, Try.ntmps151
  go_wp2
  go_loopg [8] k (fun kq v8 w' => ∃ (x8_1 : Int), v8 = .int .i64 x8_1 ∧ Aside0 (cmp_Or_int.l0 kq 0 l0 (l0.length : Int) x8_1 = some r) ∧ Aside0 (kq ≤ k) ∧ Drawn0 w w')
  case atStart => exact ⟨(0), (by first | rfl | (simp; done) | (simp [*]; done)), H', ⟨Nat.le_refl _⟩, by repeat (first | exact Drawn0.refl _ | apply Drawn0.step)⟩
  case round =>
    clear H'
    try clear c1
    obtain ⟨x8_1, rfl, HA, HK1, ⟨m1, rfl⟩⟩ := hrel
    cases gk with
    | zero => exact absurd HA.out (by simp [cmp_Or_int.l0])
    | succ k1 =>
      have H := HA.out
      clear HA
      simp only [cmp_Or_int.l0] at H
      by_cases c2 : x8_1 < (l0.length : Int)
      rotate_left
      · rw [if_neg c2] at H
        have c2b0 : decide (x8_1 < (l0.length : Int)) = false := decide_eq_false c2
        clear c2
        obtain rfl := Option.some.inj H
        go_wp2
        go_ret
        exact ⟨by first | rfl | (simp; done) | (simp [*]; done), by repeat (first | exact Drawn0.refl _ | apply Drawn0.step)⟩
      rw [if_pos c2] at H
      have c2b0 : decide (x8_1 < (l0.length : Int)) = true := decide_eq_true c2
      clear c2
      by_cases c3 : 0 ≤ x8_1
      rotate_left
      · rw [if_neg c3] at H
        exact absurd H (by simp)
      rw [if_pos c3] at H
      have c3b0 : decide (0 ≤ x8_1) = true := decide_eq_true c3
      clear c3
      by_cases c4 : x8_1 < (l0.length : Int)
      rotate_left
      · rw [if_neg c4] at H
        exact absurd H (by simp)
      rw [if_pos c4] at H
      have c4b0 : decide (x8_1 < (l0.length : Int)) = true := decide_eq_true c4
      clear c4
      by_cases c5 : (rd l0 x8_1) = 0
      rotate_left
      · rw [if_neg c5] at H
        have c5b0 : ((rd l0 x8_1) == 0) = false := beq_eq_false_iff_ne.mpr c5
        have c5b1 : ((rd l0 x8_1) != 0) = true := bne_iff_ne.mpr c5
        obtain rfl := Option.some.inj H
        have p1511001 : 0 ≤ (x8_1 : Int) := of_decide_eq_true (by first | (with_reducible assumption) | assumption)
        have q1511001 : x8_1 < (l0.length : Int) := of_decide_eq_true (by first | (with_reducible assumption) | assumption)
        obtain ⟨ad1511001, e1511001, hx1511001_0⟩ := Kd.at_int HR0.out x8_1 p1511001 q1511001
        cases e1511001
        replace p1511001 := eq_true p1511001
        replace q1511001 := eq_true q1511001
        go_wp2
        go_ret
        exact ⟨by first | rfl | (simp; done) | (simp [*]; done), by repeat (first | exact Drawn0.refl _ | apply Drawn0.step)⟩
      rw [if_pos c5] at H
      have c5b0 : ((rd l0 x8_1) == 0) = true := beq_iff_eq.mpr c5
      have c5b1 : ((rd l0 x8_1) != 0) = false := bne_eq_false_iff_eq.mpr c5
      clear c5
      have H' := Aside0.mk H
      clear H
      have p1511001 : 0 ≤ (x8_1 : Int) := of_decide_eq_true (by first | (with_reducible assumption) | assumption)
      have q1511001 : x8_1 < (l0.length : Int) := of_decide_eq_true (by first | (with_reducible assumption) | assumption)
      obtain ⟨ad1511001, e1511001, hx1511001_0⟩ := Kd.at_int HR0.out x8_1 p1511001 q1511001
      cases e1511001
      replace p1511001 := eq_true p1511001
      replace q1511001 := eq_true q1511001
      go_wp2
      go_roundg k1
      case measure => have := HK1.out; omega
      case rel => exact ⟨(wrap64 (x8_1 + 1)), (by first | rfl | (simp; done) | (simp [*]; done)), H', ⟨by have := HK1.out; omega⟩, by repeat (first | exact Drawn0.refl _ | apply Drawn0.step)⟩
end Go.Proofs.Ytmeggliapebkgaa.F
end
section
namespace Go.Proofs.Ytmeggliapebkgaa.F
open Go.RowKit Go.Proofs.YtmeggliapebkgaaW.PrintWords Go.Proofs.YtmeggliapebkgaaW.PrintLast Go.Proofs.YtmeggliapebkgaaW.PrintMore
attribute [local go_sem] max2_int min2_int max_two min_two max_three min_three max_four min_four   
set_option linter.unusedVariables false
set_option linter.unusedSimpArgs false
def cmp_isNaN_int.f (a0 : Int) : Option (Bool) := some (a0 != a0)
set_option maxHeartbeats 8000000 in
set_option maxRecDepth 100000 in
theorem cmp_isNaN_int.calls (a0 : Int) (r : Bool) (w : World) (h : cmp_isNaN_int.f a0 = some r) :
    Calls Try.prog 166 #[.int .i64 a0] w fun e w' => e = .returned (.bool r) ∧ Drawn0 w w' := by
  have H : (some (a0 != a0)) = some r := h
  clear h
  obtain rfl := Option.some.inj H
  go_enter Try.func166, Try.ntmps166
  go_wp2
  go_ret
  exact ⟨by first | rfl | (simp; done) | (simp [*]; done), by repeat (first | exact Drawn0.refl _ | apply Drawn0.step)⟩
end Go.Proofs.Ytmeggliapebkgaa.F
end
section
namespace Go.Proofs.Ytmeggliapebkgaa.F
open Go.RowKit Go.Proofs.YtmeggliapebkgaaW.PrintWords Go.Proofs.YtmeggliapebkgaaW.PrintLast Go.Proofs.YtmeggliapebkgaaW.PrintMore
attribute [local go_sem] max2_int min2_int max_two min_two max_three min_three max_four min_four   
set_option linter.unusedVariables false
set_option linter.unusedSimpArgs false
def cmp_Compare_int.f (a0 : Int) (a1 : Int) : Option (Int) := (cmp_isNaN_int.f a0).bind fun t1521001 => ((cmp_isNaN_int.f a1).bind fun t1521002 => (if t1521001 = true then (if t1521002 = true then (some 0) else (some (-1))) else (if t1521002 = true then (some 1) else (if a0 < a1 then (some (-1)) else (if a0 > a1 then (some 1) else (some 0))))))
set_option maxHeartbeats 8000000 in
set_option maxRecDepth 100000 in
theorem cmp_Compare_int.calls (a0 : Int) (a1 : Int) (r : Int) (w : World) (h : cmp_Compare_int.f a0 a1 = some r) :
    Calls Try.prog 152 #[.int .i64 a0, .int .i64 a1] w fun e w' => e = .returned (.int .i64 r) ∧ Drawn0 w w' := by
  have H : ((cmp_isNaN_int.f a0).bind fun t1521001 => ((cmp_isNaN_int.f a1).bind fun t1521002 => (if t1521001 = true then (if t1521002 = true then (some 0) else (some (-1))) else (if t1521002 = true then (some 1) else (if a0 < a1 then (some (-1)) else (if a0 > a1 then (some 1) else (some 0))))))) = some r := h
  clear h
  replace H := Option.bind_eq_some_iff.mp H
  obtain ⟨t1521001, A30, H⟩ := H
  replace H : ((cmp_isNaN_int.f a1).bind fun t1521002 => (if t1521001 = true then (if t1521002 = true then (some 0) else (some (-1))) else (if t1521002 = true then (some 1) else (if a0 < a1 then (some (-1)) else (if a0 > a1 then (some 1) else (some 0)))))) = some r := H
  have A3 := Aside0.mk A30
  clear A30
  replace H := Option.bind_eq_some_iff.mp H
  obtain ⟨t1521002, A40, H⟩ := H
  replace H : (if t1521001 = true then (if t1521002 = true then (some 0) else (some (-1))) else (if t1521002 = true then (some 1) else (if a0 < a1 then (some (-1)) else (if a0 > a1 then (some 1) else (some 0))))) = some r := H
  have A4 := Aside0.mk A40
  clear A40
  by_cases c5 : t1521001 = true
  · subst c5
    have H1 : (if t1521002 = true then (some 0) else (some (-1))) = some r := by rw [if_pos rfl] at H; exact H
    clear H
    have H := H1
    clear H1
    by_cases c6 : t1521002 = true
    · subst c6
      have H1 : (some 0) = some r := by rw [if_pos rfl] at H; exact H
      clear H
      have H := H1
      clear H1
      obtain rfl := Option.some.inj H
      go_enter Try.func152, Try.ntmps152
      go_wp2_with (first | ((with_reducible refine gate_callee (f := 166) rfl ?_); refine goesL_ (some 8) rfl rfl Try.func166 (by kernel_rfl) rfl #[.int .i64 a0] rfl (by (try simp only [List.map_toArray, List.map_cons, List.map_nil]); first | done | rfl | (simp only [List.length_drop, List.length_take]; rfl)) ?_; (with_reducible refine (cmp_isNaN_int.calls a0 true _ A3.out).mono ?_); rintro e w' ⟨rfl, ⟨nd, rfl⟩⟩; refine ⟨_, rfl, ?_⟩) | ((with_reducible refine gate_callee (f := 166) rfl ?_); refine goesL_ (some 10) rfl rfl Try.func166 (by kernel_rfl) rfl #[.int .i64 a1] rfl (by (try simp only [List.map_toArray, List.map_cons, List.map_nil]); first | done | rfl | (simp only [List.length_drop, List.length_take]; rfl)) ?_; (with_reducible refine (cmp_isNaN_int.calls a1 true _ A4.out).mono ?_); rintro e w' ⟨rfl, ⟨nd, rfl⟩⟩; refine ⟨_, rfl, ?_⟩))
      go_ret
      exact ⟨by first | rfl | (simp; done) | (simp [*]; done), by repeat (first | exact Drawn0.refl _ | apply Drawn0.step)⟩
    replace c6 := Bool.eq_false_iff.mpr c6
    subst c6
    have H1 : (some (-1)) = some r := by rw [if_neg (show ¬ (false = true) by decide)] at H; exact H
    clear H
    have H := H1
    clear H1
    obtain rfl := Option.some.inj H
    go_enter Try.func152, Try.ntmps152
    go_wp2_with (first | ((with_reducible refine gate_callee (f := 166) rfl ?_); refine goesL_ (some 8) rfl rfl Try.func166 (by kernel_rfl) rfl #[.int .i64 a0] rfl (by (try simp only [List.map_toArray, List.map_cons, List.map_nil]); first | done | rfl | (simp only [List.length_drop, List.length_take]; rfl)) ?_; (with_reducible refine (cmp_isNaN_int.calls a0 true _ A3.out).mono ?_); rintro e w' ⟨rfl, ⟨nd, rfl⟩⟩; refine ⟨_, rfl, ?_⟩) | ((with_reducible refine gate_callee (f := 166) rfl ?_); refine goesL_ (some 10) rfl rfl Try.func166 (by kernel_rfl) rfl #[.int .i64 a1] rfl (by (try simp only [List.map_toArray, List.map_cons, List.map_nil]); first | done | rfl | (simp only [List.length_drop, List.length_take]; rfl)) ?_; (with_reducible refine (cmp_isNaN_int.calls a1 false _ A4.out).mono ?_); rintro e w' ⟨rfl, ⟨nd, rfl⟩⟩; refine ⟨_, rfl, ?_⟩))
    go_ret
    exact ⟨by first | rfl | (simp; done) | (simp [*]; done), by repeat (first | exact Drawn0.refl _ | apply Drawn0.step)⟩
  replace c5 := Bool.eq_false_iff.mpr c5
  subst c5
  have H1 : (if t1521002 = true then (some 1) else (if a0 < a1 then (some (-1)) else (if a0 > a1 then (some 1) else (some 0)))) = some r := by rw [if_neg (show ¬ (false = true) by decide)] at H; exact H
  clear H
  have H := H1
  clear H1
  by_cases c7 : t1521002 = true
  · subst c7
    have H1 : (some 1) = some r := by rw [if_pos rfl] at H; exact H
    clear H
    have H := H1
    clear H1
    obtain rfl := Option.some.inj H
    go_enter Try.func152, Try.ntmps152
    go_wp2_with (first | ((with_reducible refine gate_callee (f := 166) rfl ?_); refine goesL_ (some 8) rfl rfl Try.func166 (by kernel_rfl) rfl #[.int .i64 a0] rfl (by (try simp only [List.map_toArray, List.map_cons, List.map_nil]); first | done | rfl | (simp only [List.length_drop, List.length_take]; rfl)) ?_; (with_reducible refine (cmp_isNaN_int.calls a0 false _ A3.out).mono ?_); rintro e w' ⟨rfl, ⟨nd, rfl⟩⟩; refine ⟨_, rfl, ?_⟩) | ((with_reducible refine gate_callee (f := 166) rfl ?_); refine goesL_ (some 10) rfl rfl Try.func166 (by kernel_rfl) rfl #[.int .i64 a1] rfl (by (try simp only [List.map_toArray, List.map_cons, List.map_nil]); first | done | rfl | (simp only [List.length_drop, List.length_take]; rfl)) ?_; (with_reducible refine (cmp_isNaN_int.calls a1 true _ A4.out).mono ?_); rintro e w' ⟨rfl, ⟨nd, rfl⟩⟩; refine ⟨_, rfl, ?_⟩))
    go_ret
    exact ⟨by first | rfl | (simp; done) | (simp [*]; done), by repeat (first | exact Drawn0.refl _ | apply Drawn0.step)⟩
  replace c7 := Bool.eq_false_iff.mpr c7
  subst c7
  have H1 : (if a0 < a1 then (some (-1)) else (if a0 > a1 then (some 1) else (some 0))) = some r := by rw [if_neg (show ¬ (false = true) by decide)] at H; exact H
  clear H
  have H := H1
  clear H1
  by_cases c8 : a0 < a1
  · rw [if_pos c8] at H
    have c8b0 : decide (a0 < a1) = true := decide_eq_true c8
    clear c8
    obtain rfl := Option.some.inj H
    go_enter Try.func152, Try.ntmps152
    go_wp2_with (first | ((with_reducible refine gate_callee (f := 166) rfl ?_); refine goesL_ (some 8) rfl rfl Try.func166 (by kernel_rfl) rfl #[.int .i64 a0] rfl (by (try simp only [List.map_toArray, List.map_cons, List.map_nil]); first | done | rfl | (simp only [List.length_drop, List.length_take]; rfl)) ?_; (with_reducible refine (cmp_isNaN_int.calls a0 false _ A3.out).mono ?_); rintro e w' ⟨rfl, ⟨nd, rfl⟩⟩; refine ⟨_, rfl, ?_⟩) | ((with_reducible refine gate_callee (f := 166) rfl ?_); refine goesL_ (some 10) rfl rfl Try.func166 (by kernel_rfl) rfl #[.int .i64 a1] rfl (by (try simp only [List.map_toArray, List.map_cons, List.map_nil]); first | done | rfl | (simp only [List.length_drop, List.length_take]; rfl)) ?_; (with_reducible refine (cmp_isNaN_int.calls a1 false _ A4.out).mono ?_); rintro e w' ⟨rfl, ⟨nd, rfl⟩⟩; refine ⟨_, rfl, ?_⟩))
    go_ret
    exact ⟨by first | rfl | (simp; done) | (simp [*]; done), by repeat (first | exact Drawn0.refl _ | apply Drawn0.step)⟩
  rw [if_neg c8] at H
  have c8b0 : decide (a0 < a1) = false := decide_eq_false c8
  clear c8
  by_cases c9 : a0 > a1
  · rw [if_pos c9] at H
    have c9b0 : decide (a1 < a0) = true := decide_eq_true c9
    clear c9
    obtain rfl := Option.some.inj H
    go_enter Try.func152, Try.ntmps152
    go_wp2_with (first | ((with_reducible refine gate_callee (f := 166) rfl ?_); refine goesL_ (some 8) rfl rfl Try.func166 (by kernel_rfl) rfl #[.int .i64 a0] rfl (by (try simp only [List.map_toArray, List.map_cons, List.map_nil]); first | done | rfl | (simp only [List.length_drop, List.length_take]; rfl)) ?_; (with_reducible refine (cmp_isNaN_int.calls a0 false _ A3.out).mono ?_); rintro e w' ⟨rfl, ⟨nd, rfl⟩⟩; refine ⟨_, rfl, ?_⟩) | ((with_reducible refine gate_callee (f := 166) rfl ?_); refine goesL_ (some 10) rfl rfl Try.func166 (by kernel_rfl) rfl #[.int .i64 a1] rfl (by (try simp only [List.map_toArray, List.map_cons, List.map_nil]); first | done | rfl | (simp only [List.length_drop, List.length_take]; rfl)) ?_; (with_reducible refine (cmp_isNaN_int.calls a1 false _ A4.out).mono ?_); rintro e w' ⟨rfl, ⟨nd, rfl⟩⟩; refine ⟨_, rfl, ?_⟩))
    go_ret
    exact ⟨by first | rfl | (simp; done) | (simp [*]; done), by repeat (first | exact Drawn0.refl _ | apply Drawn0.step)⟩
  rw [if_neg c9] at H
  have c9b0 : decide (a1 < a0) = false := decide_eq_false c9
  clear c9
  obtain rfl := Option.some.inj H
  go_enter Try.func152, Try.ntmps152
  go_wp2_with (first | ((with_reducible refine gate_callee (f := 166) rfl ?_); refine goesL_ (some 8) rfl rfl Try.func166 (by kernel_rfl) rfl #[.int .i64 a0] rfl (by (try simp only [List.map_toArray, List.map_cons, List.map_nil]); first | done | rfl | (simp only [List.length_drop, List.length_take]; rfl)) ?_; (with_reducible refine (cmp_isNaN_int.calls a0 false _ A3.out).mono ?_); rintro e w' ⟨rfl, ⟨nd, rfl⟩⟩; refine ⟨_, rfl, ?_⟩) | ((with_reducible refine gate_callee (f := 166) rfl ?_); refine goesL_ (some 10) rfl rfl Try.func166 (by kernel_rfl) rfl #[.int .i64 a1] rfl (by (try simp only [List.map_toArray, List.map_cons, List.map_nil]); first | done | rfl | (simp only [List.length_drop, List.length_take]; rfl)) ?_; (with_reducible refine (cmp_isNaN_int.calls a1 false _ A4.out).mono ?_); rintro e w' ⟨rfl, ⟨nd, rfl⟩⟩; refine ⟨_, rfl, ?_⟩))
  go_ret
  exact ⟨by first | rfl | (simp; done) | (simp [*]; done), by repeat (first | exact Drawn0.refl _ | apply Drawn0.step)⟩
end Go.Proofs.Ytmeggliapebkgaa.F
end
section
namespace Go.Proofs.Ytmeggliapebkgaa.F
section
open Go.RowKit Go.Proofs.YtmeggliapebkgaaW.PrintWords Go.Proofs.YtmeggliapebkgaaW.PrintLast Go.Proofs.YtmeggliapebkgaaW.PrintMore
attribute [local go_sem] max2_int min2_int max_two min_two max_three min_three max_four min_four   
set_option linter.unusedVariables false
set_option linter.unusedSimpArgs false
def cmp_isNaN_int64.f (a0 : Int) : Option (Bool) := some (a0 != a0)
set_option maxHeartbeats 8000000 in
set_option maxRecDepth 100000 in
theorem cmp_isNaN_int64.calls (a0 : Int) (r : Bool) (w : World) (h : cmp_isNaN_int64.f a0 = some r) :
  Calls Try.prog 176 #[.int .i64 a0] w fun e w' => e = .returned (.bool r) ∧ Drawn0 w w' := by
 have H : (some (a0 != a0)) = some r := h
 clear h
 obtain rfl := Option.some.inj H
 go_enter Try.func176, Try.ntmps176
 go_wp2
 go_ret
 exact ⟨by first | rfl | (simp; done) | (simp [*]; done), by repeat (first | exact Drawn0.refl _ | apply Drawn0.step)⟩
end
section
open Go.RowKit Go.Proofs.YtmeggliapebkgaaW.PrintWords Go.Proofs.YtmeggliapebkgaaW.PrintLast Go.Proofs.YtmeggliapebkgaaW.PrintMore
attribute [local go_sem] max2_int min2_int max_two min_two max_three min_three max_four min_four   
set_option linter.unusedVariables false
set_option linter.unusedSimpArgs false
def cmp_Compare_int64.f (a0 : Int) (a1 : Int) : Option (Int) := (cmp_isNaN_int64.f a0).bind fun t1671001 => ((cmp_isNaN_int64.f a1).bind fun t1671002 => (if t1671001 = true then (if t1671002 = true then (some 0) else (some (-1))) else (if t1671002 = true then (some 1) else (if a0 < a1 then (some (-1)) else (if a0 > a1 then (some 1) else (some 0))))))
set_option maxHeartbeats 8000000 in
set_option maxRecDepth 100000 in
theorem cmp_Compare_int64.calls (a0 : Int) (a1 : Int) (r : Int) (w : World) (h : cmp_Compare_int64.f a0 a1 = some r) :
  Calls Try.prog 167 #[.int .i64 a0, .int .i64 a1] w fun e w' => e = .returned (.int .i64 r) ∧ Drawn0 w w' := by
 have H : ((cmp_isNaN_int64.f a0).bind fun t1671001 => ((cmp_isNaN_int64.f a1).bind fun t1671002 => (if t1671001 = true then (if t1671002 = true then (some 0) else (some (-1))) else (if t1671002 = true then (some 1) else (if a0 < a1 then (some (-1)) else (if a0 > a1 then (some 1) else (some 0))))))) = some r := h
 clear h
 replace H := Option.bind_eq_some_iff.mp H
 obtain ⟨t1671001, A30, H⟩ := H
 replace H : ((cmp_isNaN_int64.f a1).bind fun t1671002 => (if t1671001 = true then (if t1671002 = true then (some 0) else (some (-1))) else (if t1671002 = true then (some 1) else (if a0 < a1 then (some (-1)) else (if a0 > a1 then (some 1) else (some 0)))))) = some r := H
 have A3 := Aside0.mk A30
 clear A30
 replace H := Option.bind_eq_some_iff.mp H
 obtain ⟨t1671002, A40, H⟩ := H
 replace H : (if t1671001 = true then (if t1671002 = true then (some 0) else (some (-1))) else (if t1671002 = true then (some 1) else (if a0 < a1 then (some (-1)) else (if a0 > a1 then (some 1) else (some 0))))) = some r := H
 have A4 := Aside0.mk A40
 clear A40
 by_cases c5 : t1671001 = true
 ·subst c5
  have H1 : (if t1671002 = true then (some 0) else (some (-1))) = some r := by rw [if_pos rfl] at H; exact H
  clear H
  have H := H1
  clear H1
  by_cases c6 : t1671002 = true
  ·subst c6
   have H1 : (some 0) = some r := by rw [if_pos rfl] at H; exact H
   clear H
   have H := H1
   clear H1
   obtain rfl := Option.some.inj H
   go_enter Try.func167, Try.ntmps167
   go_wp2_with (first | ((with_reducible refine gate_callee (f := 176) rfl ?_); refine goesL_ (some 8) rfl rfl Try.func176 (by kernel_rfl) rfl #[.int .i64 a0] rfl (by (try simp only [List.map_toArray, List.map_cons, List.map_nil]); first | done | rfl | (simp only [List.length_drop, List.length_take]; rfl)) ?_; (with_reducible refine (cmp_isNaN_int64.calls a0 true _ A3.out).mono ?_); rintro e w' ⟨rfl, ⟨nd, rfl⟩⟩; refine ⟨_, rfl, ?_⟩) | ((with_reducible refine gate_callee (f := 176) rfl ?_); refine goesL_ (some 10) rfl rfl Try.func176 (by kernel_rfl) rfl #[.int .i64 a1] rfl (by (try simp only [List.map_toArray, List.map_cons, List.map_nil]); first | done | rfl | (simp only [List.length_drop, List.length_take]; rfl)) ?_; (with_reducible refine (cmp_isNaN_int64.calls a1 true _ A4.out).mono ?_); rintro e w' ⟨rfl, ⟨nd, rfl⟩⟩; refine ⟨_, rfl, ?_⟩))
   go_ret
   exact ⟨by first | rfl | (simp; done) | (simp [*]; done), by repeat (first | exact Drawn0.refl _ | apply Drawn0.step)⟩
  replace c6 := Bool.eq_false_iff.mpr c6
  subst c6
  have H1 : (some (-1)) = some r := by rw [if_neg (show ¬ (false = true) by decide)] at H; exact H
  clear H
  have H := H1
  clear H1
  obtain rfl := Option.some.inj H
  go_enter Try.func167, Try.ntmps167
  go_wp2_with (first | ((with_reducible refine gate_callee (f := 176) rfl ?_); refine goesL_ (some 8) rfl rfl Try.func176 (by kernel_rfl) rfl #[.int .i64 a0] rfl (by (try simp only [List.map_toArray, List.map_cons, List.map_nil]); first | done | rfl | (simp only [List.length_drop, List.length_take]; rfl)) ?_; (with_reducible refine (cmp_isNaN_int64.calls a0 true _ A3.out).mono ?_); rintro e w' ⟨rfl, ⟨nd, rfl⟩⟩; refine ⟨_, rfl, ?_⟩) | ((with_reducible refine gate_callee (f := 176) rfl ?_); refine goesL_ (some 10) rfl rfl Try.func176 (by kernel_rfl) rfl #[.int .i64 a1] rfl (by (try simp only [List.map_toArray, List.map_cons, List.map_nil]); first | done | rfl | (simp only [List.length_drop, List.length_take]; rfl)) ?_; (with_reducible refine (cmp_isNaN_int64.calls a1 false _ A4.out).mono ?_); rintro e w' ⟨rfl, ⟨nd, rfl⟩⟩; refine ⟨_, rfl, ?_⟩))
  go_ret
  exact ⟨by first | rfl | (simp; done) | (simp [*]; done), by repeat (first | exact Drawn0.refl _ | apply Drawn0.step)⟩
 replace c5 := Bool.eq_false_iff.mpr c5
 subst c5
 have H1 : (if t1671002 = true then (some 1) else (if a0 < a1 then (some (-1)) else (if a0 > a1 then (some 1) else (some 0)))) = some r := by rw [if_neg (show ¬ (false = true) by decide)] at H; exact H
 clear H
 have H := H1
 clear H1
 by_cases c7 : t1671002 = true
 ·subst c7
  have H1 : (some 1) = some r := by rw [if_pos rfl] at H; exact H
  clear H
  have H := H1
  clear H1
  obtain rfl := Option.some.inj H
  go_enter Try.func167, Try.ntmps167
  go_wp2_with (first | ((with_reducible refine gate_callee (f := 176) rfl ?_); refine goesL_ (some 8) rfl rfl Try.func176 (by kernel_rfl) rfl #[.int .i64 a0] rfl (by (try simp only [List.map_toArray, List.map_cons, List.map_nil]); first | done | rfl | (simp only [List.length_drop, List.length_take]; rfl)) ?_; (with_reducible refine (cmp_isNaN_int64.calls a0 false _ A3.out).mono ?_); rintro e w' ⟨rfl, ⟨nd, rfl⟩⟩; refine ⟨_, rfl, ?_⟩) | ((with_reducible refine gate_callee (f := 176) rfl ?_); refine goesL_ (some 10) rfl rfl Try.func176 (by kernel_rfl) rfl #[.int .i64 a1] rfl (by (try simp only [List.map_toArray, List.map_cons, List.map_nil]); first | done | rfl | (simp only [List.length_drop, List.length_take]; rfl)) ?_; (with_reducible refine (cmp_isNaN_int64.calls a1 true _ A4.out).mono ?_); rintro e w' ⟨rfl, ⟨nd, rfl⟩⟩; refine ⟨_, rfl, ?_⟩))
  go_ret
  exact ⟨by first | rfl | (simp; done) | (simp [*]; done), by repeat (first | exact Drawn0.refl _ | apply Drawn0.step)⟩
 replace c7 := Bool.eq_false_iff.mpr c7
 subst c7
 have H1 : (if a0 < a1 then (some (-1)) else (if a0 > a1 then (some 1) else (some 0))) = some r := by rw [if_neg (show ¬ (false = true) by decide)] at H; exact H
 clear H
 have H := H1
 clear H1
 by_cases c8 : a0 < a1
 ·rw [if_pos c8] at H
  have c8b0 : decide (a0 < a1) = true := decide_eq_true c8
  clear c8
  obtain rfl := Option.some.inj H
  go_enter Try.func167, Try.ntmps167
  go_wp2_with (first | ((with_reducible refine gate_callee (f := 176) rfl ?_); refine goesL_ (some 8) rfl rfl Try.func176 (by kernel_rfl) rfl #[.int .i64 a0] rfl (by (try simp only [List.map_toArray, List.map_cons, List.map_nil]); first | done | rfl | (simp only [List.length_drop, List.length_take]; rfl)) ?_; (with_reducible refine (cmp_isNaN_int64.calls a0 false _ A3.out).mono ?_); rintro e w' ⟨rfl, ⟨nd, rfl⟩⟩; refine ⟨_, rfl, ?_⟩) | ((with_reducible refine gate_callee (f := 176) rfl ?_); refine goesL_ (some 10) rfl rfl Try.func176 (by kernel_rfl) rfl #[.int .i64 a1] rfl (by (try simp only [List.map_toArray, List.map_cons, List.map_nil]); first | done | rfl | (simp only [List.length_drop, List.length_take]; rfl)) ?_; (with_reducible refine (cmp_isNaN_int64.calls a1 false _ A4.out).mono ?_); rintro e w' ⟨rfl, ⟨nd, rfl⟩⟩; refine ⟨_, rfl, ?_⟩))
  go_ret
  exact ⟨by first | rfl | (simp; done) | (simp [*]; done), by repeat (first | exact Drawn0.refl _ | apply Drawn0.step)⟩
 rw [if_neg c8] at H
 have c8b0 : decide (a0 < a1) = false := decide_eq_false c8
 clear c8
 by_cases c9 : a0 > a1
 ·rw [if_pos c9] at H
  have c9b0 : decide (a1 < a0) = true := decide_eq_true c9
  clear c9
  obtain rfl := Option.some.inj H
  go_enter Try.func167, Try.ntmps167
  go_wp2_with (first | ((with_reducible refine gate_callee (f := 176) rfl ?_); refine goesL_ (some 8) rfl rfl Try.func176 (by kernel_rfl) rfl #[.int .i64 a0] rfl (by (try simp only [List.map_toArray, List.map_cons, List.map_nil]); first | done | rfl | (simp only [List.length_drop, List.length_take]; rfl)) ?_; (with_reducible refine (cmp_isNaN_int64.calls a0 false _ A3.out).mono ?_); rintro e w' ⟨rfl, ⟨nd, rfl⟩⟩; refine ⟨_, rfl, ?_⟩) | ((with_reducible refine gate_callee (f := 176) rfl ?_); refine goesL_ (some 10) rfl rfl Try.func176 (by kernel_rfl) rfl #[.int .i64 a1] rfl (by (try simp only [List.map_toArray, List.map_cons, List.map_nil]); first | done | rfl | (simp only [List.length_drop, List.length_take]; rfl)) ?_; (with_reducible refine (cmp_isNaN_int64.calls a1 false _ A4.out).mono ?_); rintro e w' ⟨rfl, ⟨nd, rfl⟩⟩; refine ⟨_, rfl, ?_⟩))
  go_ret
  exact ⟨by first | rfl | (simp; done) | (simp [*]; done), by repeat (first | exact Drawn0.refl _ | apply Drawn0.step)⟩
 rw [if_neg c9] at H
 have c9b0 : decide (a1 < a0) = false := decide_eq_false c9
 clear c9
 obtain rfl := Option.some.inj H
 go_enter Try.func167, Try.ntmps167
 go_wp2_with (first | ((with_reducible refine gate_callee (f := 176) rfl ?_); refine goesL_ (some 8) rfl rfl Try.func176 (by kernel_rfl) rfl #[.int .i64 a0] rfl (by (try simp only [List.map_toArray, List.map_cons, List.map_nil]); first | done | rfl | (simp only [List.length_drop, List.length_take]; rfl)) ?_; (with_reducible refine (cmp_isNaN_int64.calls a0 false _ A3.out).mono ?_); rintro e w' ⟨rfl, ⟨nd, rfl⟩⟩; refine ⟨_, rfl, ?_⟩) | ((with_reducible refine gate_callee (f := 176) rfl ?_); refine goesL_ (some 10) rfl rfl Try.func176 (by kernel_rfl) rfl #[.int .i64 a1] rfl (by (try simp only [List.map_toArray, List.map_cons, List.map_nil]); first | done | rfl | (simp only [List.length_drop, List.length_take]; rfl)) ?_; (with_reducible refine (cmp_isNaN_int64.calls a1 false _ A4.out).mono ?_); rintro e w' ⟨rfl, ⟨nd, rfl⟩⟩; refine ⟨_, rfl, ?_⟩))
 go_ret
 exact ⟨by first | rfl | (simp; done) | (simp [*]; done), by repeat (first | exact Drawn0.refl _ | apply Drawn0.step)⟩
end
section
open Go.RowKit Go.Proofs.YtmeggliapebkgaaW.PrintWords Go.Proofs.YtmeggliapebkgaaW.PrintLast Go.Proofs.YtmeggliapebkgaaW.PrintMore
attribute [local go_sem] max2_int min2_int max_two min_two max_three min_three max_four min_four   
set_option linter.unusedVariables false
set_option linter.unusedSimpArgs false
def slices_Compare_int64_int64.l0 : Nat → List Int → List Int → List Int → Int → Int → Option (Int)
 | 0, _, _, _, _, _ => none
 | k + 1, x0, x1, x9, x10, x11 => if x11 < x10 then (if 0 ≤ x11 then (if x11 < (x9.length : Int) then (if x11 ≥ (x1.length : Int) then (some 1) else (if x11 < (x1.length : Int) then ((cmp_Compare_int64.f (rd x9 x11) (rd x1 x11)).bind fun t1531003 => (if t1531003 = 0 then (slices_Compare_int64_int64.l0 k x0 x1 x9 x10 (wrap64 (x11 + 1))) else (some t1531003))) else (none))) else (none)) else (none)) else (if (x0.length : Int) < (x1.length : Int) then (some (-1)) else (some 0))
def slices_Compare_int64_int64.f (k : Nat) (l0 : List Int) (l1 : List Int) : Option (Int) := slices_Compare_int64_int64.l0 k l0 l1 l0 (l0.length : Int) 0
theorem slices_Compare_int64_int64.mono_l : ∀ k, (∀ y0 y1 y2 y3 y4, LeO (slices_Compare_int64_int64.l0 k y0 y1 y2 y3 y4) (slices_Compare_int64_int64.l0 (k + 1) y0 y1 y2 y3 y4))
 | 0 => fun _ _ _ _ _ r h => by simp [slices_Compare_int64_int64.l0] at h
 | k + 1 => by
  have ih0 := slices_Compare_int64_int64.mono_l k
  ·intro y0 y1 y2 y3 y4
   unfold slices_Compare_int64_int64.l0
   repeat' first
   | (with_reducible exact ih0 _ _ _ _ _)
   | (with_reducible exact LeO.refl _)
   | (with_reducible exact LeO.none _)
   | (with_reducible refine LeO.ite ?_ ?_)
   | (with_reducible refine LeO.bind ?_ (fun _ => ?_))
   | exact ih0 _ _ _ _ _
   | exact LeO.none _
   | refine LeO.ite ?_ ?_
   | refine LeO.bind ?_ (fun _ => ?_)
theorem slices_Compare_int64_int64.mono : ∀ a0 a1 k, LeO (slices_Compare_int64_int64.f k a0 a1) (slices_Compare_int64_int64.f (k + 1) a0 a1) := by
 intro a0 a1 k
 have ih0 := slices_Compare_int64_int64.mono_l k
 unfold slices_Compare_int64_int64.f
 repeat' first
   | (with_reducible exact ih0 _ _ _ _ _)
   | (with_reducible exact LeO.refl _)
   | (with_reducible exact LeO.none _)
   | (with_reducible refine LeO.ite ?_ ?_)
   | (with_reducible refine LeO.bind ?_ (fun _ => ?_))
   | exact ih0 _ _ _ _ _
   | exact LeO.none _
   | refine LeO.ite ?_ ?_
   | refine LeO.bind ?_ (fun _ => ?_)
set_option maxHeartbeats 8000000 in
set_option maxRecDepth 100000 in
theorem slices_Compare_int64_int64.calls (k : Nat) (A0 : Option Addr) (c0 : Nat) (l0 : List Int) (A1 : Option Addr) (c1 : Nat) (l1 : List Int) (r : Int) (w : World) (hr0 : Kd.C (Kd.int .i64) w A0 l0.length l0) (hc0 : l0.length ≤ c0) (hr1 : Kd.C (Kd.int .i64) w A1 l1.length l1) (hc1 : l1.length ≤ c1) (h : slices_Compare_int64_int64.f k l0 l1 = some r) :
  Calls Try.prog 153 #[.slice A0 l0.length c0, .slice A1 l1.length c1] w fun e w' => e = .returned (.int .i64 r) ∧ Drawn0 w w' := by
 have HR0 := Aside0.mk hr0
 have HC0 := Aside0.mk hc0
 clear hr0 hc0
 have HR1 := Aside0.mk hr1
 have HC1 := Aside0.mk hc1
 clear hr1 hc1
 have H : (slices_Compare_int64_int64.l0 k l0 l1 l0 (l0.length : Int) 0) = some r := h
 clear h
 have H' := Aside0.mk H
 clear H
 go_enter Try.func153, Try.ntmps153
 go_wp2
 go_loopg [11] k (fun kq v11 w' => ∃ (x11_1 : Int), v11 = .int .i64 x11_1 ∧ Aside0 (slices_Compare_int64_int64.l0 kq l0 l1 l0 (l0.length : Int) x11_1 = some r) ∧ Aside0 (kq ≤ k) ∧ Drawn0 w w')
 case atStart => exact ⟨(0), (by first | rfl | (simp; done) | (simp [*]; done)), H', ⟨Nat.le_refl _⟩, by repeat (first | exact Drawn0.refl _ | apply Drawn0.step)⟩
 case round =>
  clear H'
  try clear c1
  try clear p2
  obtain ⟨x11_1, rfl, HA, HK1, ⟨m1, rfl⟩⟩ := hrel
  cases gk with
  | zero => exact absurd HA.out (by simp [slices_Compare_int64_int64.l0])
  | succ k1 =>
   have H := HA.out
   clear HA
   simp only [slices_Compare_int64_int64.l0] at H
   by_cases c3 : x11_1 < (l0.length : Int)
   rotate_left
   ·rw [if_neg c3] at H
    have c3b0 : decide (x11_1 < (l0.length : Int)) = false := decide_eq_false c3
    clear c3
    by_cases c10 : (l0.length : Int) < (l1.length : Int)
    ·rw [if_pos c10] at H
     have c10b0 : decide ((l0.length : Int) < (l1.length : Int)) = true := decide_eq_true c10
     have c10b1 : decide (l0.length < l1.length) = true := decide_eq_true (Int.ofNat_lt.mp c10)
     clear c10
     obtain rfl := Option.some.inj H
     go_wp2
     go_ret
     exact ⟨by first | rfl | (simp; done) | (simp [*]; done), by repeat (first | exact Drawn0.refl _ | apply Drawn0.step)⟩
    rw [if_neg c10] at H
    have c10b0 : decide ((l0.length : Int) < (l1.length : Int)) = false := decide_eq_false c10
    have c10b1 : decide (l0.length < l1.length) = false := decide_eq_false (fun h => c10 (Int.ofNat_lt.mpr h))
    clear c10
    obtain rfl := Option.some.inj H
    go_wp2
    go_ret
    exact ⟨by first | rfl | (simp; done) | (simp [*]; done), by repeat (first | exact Drawn0.refl _ | apply Drawn0.step)⟩
   rw [if_pos c3] at H
   have c3b0 : decide (x11_1 < (l0.length : Int)) = true := decide_eq_true c3
   clear c3
   by_cases c4 : 0 ≤ x11_1
   rotate_left
   ·rw [if_neg c4] at H
    exact absurd H (by simp)
   rw [if_pos c4] at H
   have c4b0 : decide (0 ≤ x11_1) = true := decide_eq_true c4
   clear c4
   by_cases c5 : x11_1 < (l0.length : Int)
   rotate_left
   ·rw [if_neg c5] at H
    exact absurd H (by simp)
   rw [if_pos c5] at H
   have c5b0 : decide (x11_1 < (l0.length : Int)) = true := decide_eq_true c5
   clear c5
   by_cases c6 : x11_1 ≥ (l1.length : Int)
   ·rw [if_pos c6] at H
    have c6b0 : decide ((l1.length : Int) ≤ x11_1) = true := decide_eq_true c6
    clear c6
    obtain rfl := Option.some.inj H
    have p1531001 : 0 ≤ (x11_1 : Int) := of_decide_eq_true (by first | (with_reducible assumption) | assumption)
    have q1531001 : x11_1 < (l0.length : Int) := of_decide_eq_true (by first | (with_reducible assumption) | assumption)
    obtain ⟨ad1531001, e1531001, hx1531001_0⟩ := Kd.at_int HR0.out x11_1 p1531001 q1531001
    cases e1531001
    replace p1531001 := eq_true p1531001
    replace q1531001 := eq_true q1531001
    go_wp2
    go_ret
    exact ⟨by first | rfl | (simp; done) | (simp [*]; done), by repeat (first | exact Drawn0.refl _ | apply Drawn0.step)⟩
   rw [if_neg c6] at H
   have c6b0 : decide ((l1.length : Int) ≤ x11_1) = false := decide_eq_false c6
   clear c6
   by_cases c7 : x11_1 < (l1.length : Int)
   rotate_left
   ·rw [if_neg c7] at H
    exact absurd H (by simp)
   rw [if_pos c7] at H
   have c7b0 : decide (x11_1 < (l1.length : Int)) = true := decide_eq_true c7
   clear c7
   replace H := Option.bind_eq_some_iff.mp H
   obtain ⟨t1531003, A80, H⟩ := H
   replace H : (if t1531003 = 0 then (slices_Compare_int64_int64.l0 k1 l0 l1 l0 (l0.length : Int) (wrap64 (x11_1 + 1))) else (some t1531003)) = some r := H
   have A8 := Aside0.mk A80
   clear A80
   by_cases c9 : t1531003 = 0
   rotate_left
   ·rw [if_neg c9] at H
    have c9b0 : (t1531003 == 0) = false := beq_eq_false_iff_ne.mpr c9
    have c9b1 : (t1531003 != 0) = true := bne_iff_ne.mpr c9
    obtain rfl := Option.some.inj H
    have p1531001 : 0 ≤ (x11_1 : Int) := of_decide_eq_true (by first | (with_reducible assumption) | assumption)
    have q1531001 : x11_1 < (l0.length : Int) := of_decide_eq_true (by first | (with_reducible assumption) | assumption)
    obtain ⟨ad1531001, e1531001, hx1531001_0⟩ := Kd.at_int HR0.out x11_1 p1531001 q1531001
    cases e1531001
    replace p1531001 := eq_true p1531001
    replace q1531001 := eq_true q1531001
    have p1531002 : 0 ≤ (x11_1 : Int) := of_decide_eq_true (by first | (with_reducible assumption) | assumption)
    have q1531002 : x11_1 < (l1.length : Int) := of_decide_eq_true (by first | (with_reducible assumption) | assumption)
    obtain ⟨ad1531002, e1531002, hx1531002_0⟩ := Kd.at_int HR1.out x11_1 p1531002 q1531002
    cases e1531002
    replace p1531002 := eq_true p1531002
    replace q1531002 := eq_true q1531002
    go_wp2_with (first | ((with_reducible refine gate_callee (f := 167) rfl ?_); refine goesL_ (some 26) rfl rfl Try.func167 (by kernel_rfl) rfl #[.int .i64 (rd l0 x11_1), .int .i64 (rd l1 x11_1)] rfl (by (try simp only [List.map_toArray, List.map_cons, List.map_nil]); first | done | rfl | (simp only [List.length_drop, List.length_take]; rfl)) ?_; (with_reducible refine (cmp_Compare_int64.calls (rd l0 x11_1) (rd l1 x11_1) t1531003 _ A8.out).mono ?_); rintro e w' ⟨rfl, ⟨nd, rfl⟩⟩; refine ⟨_, rfl, ?_⟩))
    go_ret
    exact ⟨by first | rfl | (simp; done) | (simp [*]; done), by repeat (first | exact Drawn0.refl _ | apply Drawn0.step)⟩
   rw [if_pos c9] at H
   have c9b0 : (t1531003 == 0) = true := beq_iff_eq.mpr c9
   have c9b1 : (t1531003 != 0) = false := bne_eq_false_iff_eq.mpr c9
   clear c9
   have H' := Aside0.mk H
   clear H
   have p1531001 : 0 ≤ (x11_1 : Int) := of_decide_eq_true (by first | (with_reducible assumption) | assumption)
   have q1531001 : x11_1 < (l0.length : Int) := of_decide_eq_true (by first | (with_reducible assumption) | assumption)
   obtain ⟨ad1531001, e1531001, hx1531001_0⟩ := Kd.at_int HR0.out x11_1 p1531001 q1531001
   cases e1531001
   replace p1531001 := eq_true p1531001
   replace q1531001 := eq_true q1531001
   have p1531002 : 0 ≤ (x11_1 : Int) := of_decide_eq_true (by first | (with_reducible assumption) | assumption)
   have q1531002 : x11_1 < (l1.length : Int) := of_decide_eq_true (by first | (with_reducible assumption) | assumption)
   obtain ⟨ad1531002, e1531002, hx1531002_0⟩ := Kd.at_int HR1.out x11_1 p1531002 q1531002
   cases e1531002
   replace p1531002 := eq_true p1531002
   replace q1531002 := eq_true q1531002
   go_wp2_with (first | ((with_reducible refine gate_callee (f := 167) rfl ?_); refine goesL_ (some 26) rfl rfl Try.func167 (by kernel_rfl) rfl #[.int .i64 (rd l0 x11_1), .int .i64 (rd l1 x11_1)] rfl (by (try simp only [List.map_toArray, List.map_cons, List.map_nil]); first | done | rfl | (simp only [List.length_drop, List.length_take]; rfl)) ?_; (with_reducible refine (cmp_Compare_int64.calls (rd l0 x11_1) (rd l1 x11_1) t1531003 _ A8.out).mono ?_); rintro e w' ⟨rfl, ⟨nd, rfl⟩⟩; refine ⟨_, rfl, ?_⟩))
   go_roundg k1
   case measure => have := HK1.out; omega
   case rel => exact ⟨(wrap64 (x11_1 + 1)), (by first | rfl | (simp; done) | (simp [*]; done)), H', ⟨by have := HK1.out; omega⟩, by repeat (first | exact Drawn0.refl _ | apply Drawn0.step)⟩
end
end Go.Proofs.Ytmeggliapebkgaa.F
end
section
namespace Go.Proofs.Ytmeggliapebkgaa.F
open Go.RowKit Go.Proofs.YtmeggliapebkgaaW.PrintWords Go.Proofs.YtmeggliapebkgaaW.PrintLast Go.Proofs.YtmeggliapebkgaaW.PrintMore
attribute [local go_sem] max2_int min2_int max_two min_two max_three min_three max_four min_four   
set_option linter.unusedVariables false
set_option linter.unusedSimpArgs false
def impl_wordOrder.f (k : Nat) (l0 : List Int) (l1 : List Int) : Option (Int) := (cmp_Compare_int.f (l0.length : Int) (l1.length : Int)).bind fun t1181001 => ((slices_Compare_int64_int64.f k l0 l1).bind fun t1181002 => ((cmp_Or_int.f k (([t1181001, t1181002] : List Int))).bind fun t1181006 => (some t1181006)))
theorem impl_wordOrder.mono : ∀ a0 a1 k, LeO (impl_wordOrder.f k a0 a1) (impl_wordOrder.f (k + 1) a0 a1) := by
  intro a0 a1 k
  unfold impl_wordOrder.f
  repeat' first
      | (with_reducible exact cmp_Or_int.mono _ _)
      | (with_reducible exact slices_Compare_int64_int64.mono _ _ _)
      | (with_reducible exact LeO.refl _)
      | (with_reducible exact LeO.none _)
      | (with_reducible refine LeO.ite ?_ ?_)
      | (with_reducible refine LeO.bind ?_ (fun _ => ?_))
      | exact cmp_Or_int.mono _ _
      | exact slices_Compare_int64_int64.mono _ _ _
      | exact LeO.none _
      | refine LeO.ite ?_ ?_
      | refine LeO.bind ?_ (fun _ => ?_)
set_option maxHeartbeats 8000000 in
set_option maxRecDepth 100000 in
theorem impl_wordOrder.calls (k : Nat) (A0 : Option Addr) (c0 : Nat) (l0 : List Int) (A1 : Option Addr) (c1 : Nat) (l1 : List Int) (r : Int) (w : World) (hr0 : Kd.C (Kd.int .i64) w A0 l0.length l0) (hc0 : l0.length ≤ c0) (hr1 : Kd.C (Kd.int .i64) w A1 l1.length l1) (hc1 : l1.length ≤ c1) (h : impl_wordOrder.f k l0 l1 = some r) :
    Calls Try.prog 118 #[.slice A0 l0.length c0, .slice A1 l1.length c1] w fun e w' => e = .returned (.int .i64 r) ∧ Below w.heap.size w w' := by
  have HR0 := Aside0.mk hr0
  have HC0 := Aside0.mk hc0
  clear hr0 hc0
  have HR1 := Aside0.mk hr1
  have HC1 := Aside0.mk hc1
  clear hr1 hc1
  have HB := Aside0.mk (Below.refl w.heap.size w)
  have H : ((cmp_Compare_int.f (l0.length : Int) (l1.length : Int)).bind fun t1181001 => ((slices_Compare_int64_int64.f k l0 l1).bind fun t1181002 => ((cmp_Or_int.f k (([t1181001, t1181002] : List Int))).bind fun t1181006 => (some t1181006)))) = some r := h
  clear h
  replace H := Option.bind_eq_some_iff.mp H
  obtain ⟨t1181001, A30, H⟩ := H
  replace H : ((slices_Compare_int64_int64.f k l0 l1).bind fun t1181002 => ((cmp_Or_int.f k (([t1181001, t1181002] : List Int))).bind fun t1181006 => (some t1181006))) = some r := H
  have A3 := Aside0.mk A30
  clear A30
  replace H := Option.bind_eq_some_iff.mp H
  obtain ⟨t1181002, A40, H⟩ := H
  replace H : ((cmp_Or_int.f k (([t1181001, t1181002] : List Int))).bind fun t1181006 => (some t1181006)) = some r := H
  have A4 := Aside0.mk A40
  clear A40
  obtain ⟨y1181003, hy1181003⟩ : ∃ y_ : List Int, y_ = (([t1181001, t1181002] : List Int)) := ⟨_, rfl⟩
  replace H : ((cmp_Or_int.f k y1181003).bind fun t1181006 => (some t1181006)) = some r := by first | (rw [hy1181003]; with_reducible exact H) | (have H2_ := (Option.bind_some _ _).symm.trans H; rw [hy1181003]; with_reducible exact H2_) | (have H2_ := (Option.bind_some _ _).symm.trans H; with_reducible exact H2_) | with_reducible exact H | (rw [hy1181003]; exact H) | exact H
  have Ny1181003 := Aside0.mk hy1181003
  clear hy1181003
  replace H := Option.bind_eq_some_iff.mp H
  obtain ⟨t1181006, A50, H⟩ := H
  replace H : (some t1181006) = some r := H
  have A5 := Aside0.mk A50
  clear A50
  obtain rfl := Option.some.inj H
  go_enter Try.func118, Try.ntmps118
  go_wp2_with (first | ((with_reducible refine gate_callee (f := 152) rfl ?_); refine goesL_ (some 9) rfl rfl Try.func152 (by kernel_rfl) rfl #[.int .i64 (l0.length : Int), .int .i64 (l1.length : Int)] rfl (by (try simp only [List.map_toArray, List.map_cons, List.map_nil]); first | done | rfl | (simp only [List.length_drop, List.length_take]; rfl)) ?_; (with_reducible refine (cmp_Compare_int.calls (l0.length : Int) (l1.length : Int) t1181001 _ A3.out).mono ?_); rintro e w' ⟨rfl, ⟨nd, rfl⟩⟩; refine ⟨_, rfl, ?_⟩) | ((with_reducible refine gate_callee (f := 153) rfl ?_); refine goesL_ (some 12) rfl rfl Try.func153 (by kernel_rfl) rfl #[.slice A0 l0.length c0, .slice A1 l1.length c1] rfl (by (try simp only [List.map_toArray, List.map_cons, List.map_nil]); first | done | rfl | (simp only [List.length_drop, List.length_take]; rfl)) ?_; (with_reducible refine (slices_Compare_int64_int64.calls k _ _ l0 _ _ l1 t1181002 _ ?side1 ?side2 ?side3 ?side4 A4.out).mono ?_); (case side1 => repeat (first | exact HR0.out | (with_reducible refine Kd.C_alloc ?_ _) | (with_reducible refine Kd.C_drewN ?_ _) | (with_reducible refine Kd.C_drew ?_))); (case side2 => exact HC0.out); (case side3 => repeat (first | exact HR1.out | (with_reducible refine Kd.C_alloc ?_ _) | (with_reducible refine Kd.C_drewN ?_ _) | (with_reducible refine Kd.C_drew ?_))); (case side4 => exact HC1.out); rintro e w' ⟨rfl, ⟨nd, rfl⟩⟩; refine ⟨_, rfl, ?_⟩) | ((with_reducible refine gate_dst (N := 13) rfl ?_); refine Kd.R_lit (Kd.int .i64) _ 3 ?hg (N := 13) ?hd (xs := ([t1181001, t1181002] : List Int)) (inner := [.int .i64 t1181001, .int .i64 t1181002]) (ok := fun _ => True) (okp := fun _ => True) ?hr ?hp (fun _ hk => hk) trivial (Below.refl _ _) (Nat.le_refl _) (by simp) ?_; (case hd => rfl); (case hg => rfl); (case hr => first | (go_simp; done) | (go_simp; rfl)); (case hp => exact (Reps.one (show Kd.M (Kd.int .i64) _ _ _ t1181001 [.int .i64 t1181001] from rfl) (Reps.one (show Kd.M (Kd.int .i64) _ _ _ t1181002 [.int .i64 t1181002] from rfl) (Reps.none _ _)))); intro v1181004 w6 ho7 hb hg_ hnew_; clear hg_ hnew_; (first | rw [← Ny1181003.out] at ho7 | (simp only [Int.reduceToNat] at ho7; rw [← Ny1181003.out] at ho7)); have n0_ := Aside0.mk (Kd.R_lower ho7 (below_size (by repeat (first | (with_reducible first | exact HB.out | apply below_alloc | apply pw_below_drewN | apply below_drew1) | exact HB.out)))); have n1_ := Aside0.mk (below_step (by repeat (first | (with_reducible first | exact HB.out | apply below_alloc | apply pw_below_drewN | apply below_drew1) | exact HB.out)) hb); clear HB; have HO1181005 := n0_; have HB := n1_; clear n0_ n1_; clear hb ho7; obtain ⟨Ao8, co8, eo8⟩ := Kd.R_slice HO1181005.out; subst eo8) | ((with_reducible refine gate_callee (f := 151) rfl ?_); refine goesL_ (some 14) rfl rfl Try.func151 (by kernel_rfl) rfl #[.slice Ao8 y1181003.length co8] rfl (by (try simp only [List.map_toArray, List.map_cons, List.map_nil]); first | done | rfl | (simp only [List.length_drop, List.length_take]; rfl)) ?_; (with_reducible refine (cmp_Or_int.calls k _ _ y1181003 t1181006 _ ?side1 ?side2 A5.out).mono ?_); (case side1 => repeat (first | exact (Kd.R_reads' HO1181005.out).2.2 | (with_reducible refine Kd.C_alloc ?_ _) | (with_reducible refine Kd.C_drewN ?_ _) | (with_reducible refine Kd.C_drew ?_))); (case side2 => exact (Kd.R_reads' HO1181005.out).2.1); rintro e w' ⟨rfl, ⟨nd, rfl⟩⟩; refine ⟨_, rfl, ?_⟩))
  go_ret
  exact ⟨by first | rfl | (simp [errW_none, errW_some] <;> rfl) | (simp [*, errW_none, errW_some] <;> rfl), by repeat (first | (with_reducible first | exact HB.out | apply below_alloc | apply pw_below_drewN | apply below_drew1) | exact HB.out)⟩
end Go.Proofs.Ytmeggliapebkgaa.F
end
section
namespace Go.Proofs.Ytmeggliapebkgaa.F
abbrev bqFx59_0 : Array Bool := #[false, false, false, false, false, false, false, false, false, false, false, false, false, false, false, false, false, false, false, false, false, false, false, false, false, false, false, false, false, false]
abbrev bqFx59_1 : Array Bool := #[true, false, false, false, false, false, false, false, false, false, false, false, false, false, false, false, false, false, false, false, false, false, false, false, false, false, false, false, false, false]
abbrev bqFx59_2 : Array Bool := #[true, true, false, false, false, false, false, false, false, false, false, false, false, false, false, false, false, false, false, false, false, false, false, false, false, false, false, false, false, false]
abbrev bqFx59_3 : Array Bool := #[true, true, true, false, false, false, false, false, false, false, false, false, false, false, false, false, false, false, false, false, false, false, false, false, false, false, false, false, false, false]
abbrev bqFx59_4 : Array Bool := #[true, true, true, true, false, false, false, false, false, false, false, false, false, false, false, false, false, false, false, false, false, false, false, false, false, false, false, false, false, false]
abbrev bqFx59_5 : Array Bool := #[true, true, true, true, true, false, false, false, false, false, false, false, false, false, false, false, false, false, false, false, false, false, false, false, false, false, false, false, false, false]
abbrev bqFx59_6 : Array Bool := #[true, true, true, true, true, true, false, false, false, false, false, false, false, false, false, false, false, false, false, false, false, false, false, false, false, false, false, false, false, false]
abbrev bqFx59_7 : Array Bool := #[true, true, true, true, true, true, true, false, false, false, false, false, false, false, false, false, false, false, false, false, false, false, false, false, false, false, false, false, false, false]
abbrev bqFx59_8 : Array Bool := #[true, true, true, true, true, true, true, true, false, false, false, false, false, false, false, false, false, false, false, false, false, false, false, false, false, false, false, false, false, false]
abbrev bqFx59_9 : Array Bool := #[true, true, true, true, true, true, true, true, true, false, false, false, false, false, false, false, false, false, false, false, false, false, false, false, false, false, false, false, false, false]
abbrev bqFx59_10 : Array Bool := #[true, true, true, true, true, true, true, true, true, true, false, false, false, false, false, false, false, false, false, false, false, false, false, false, false, false, false, false, false, false]
abbrev bqFx59_11 : Array Bool := #[true, true, true, true, true, true, true, true, true, true, true, false, false, false, false, false, false, false, false, false, false, false, false, false, false, false, false, false, false, false]
abbrev bqFx59_12 : Array Bool := #[true, true, true, true, true, true, true, true, true, true, true, true, false, false, false, false, false, false, false, false, false, false, false, false, false, false, false, false, false, false]
abbrev bqFx59_13 : Array Bool := #[true, true, true, true, true, true, true, true, true, true, true, true, true, false, false, false, false, false, false, false, false, false, false, false, false, false, false, false, false, false]
abbrev bqFx59_14 : Array Bool := #[true, true, true, true, true, true, true, true, true, true, true, true, true, true, false, false, false, false, false, false, false, false, false, false, false, false, false, false, false, false]
abbrev bqFx59_15 : Array Bool := #[true, true, true, true, true, true, true, true, true, true, true, true, true, true, true, false, false, false, false, false, false, false, false, false, false, false, false, false, false, false]
abbrev bqFx59_16 : Array Bool := #[true, true, true, true, true, true, true, true, true, true, true, true, true, true, true, true, false, false, false, false, false, false, false, false, false, false, false, false, false, false]
abbrev bqFx59_17 : Array Bool := #[true, true, true, true, true, true, true, true, true, true, true, true, true, true, true, true, true, false, false, false, false, false, false, false, false, false, false, false, false, false]
abbrev bqFx59_18 : Array Bool := #[true, true, true, true, true, true, true, true, true, true, true, true, true, true, true, true, true, true, false, false, false, false, false, false, false, false, false, false, false, false]
abbrev bqFx59_19 : Array Bool := #[true, true, true, true, true, true, true, true, true, true, true, true, true, true, true, true, true, true, true, false, false, false, false, false, false, false, false, false, false, false]
abbrev bqFx59_20 : Array Bool := #[true, true, true, true, true, true, true, true, true, true, true, true, true, true, true, true, true, true, true, true, false, false, false, false, false, false, false, false, false, false]
abbrev bqFx59_21 : Array Bool := #[true, true, true, true, true, true, true, true, true, true, true, true, true, true, true, true, true, true, true, true, true, false, false, false, false, false, false, false, false, false]
abbrev bqFx59_22 : Array Bool := #[true, true, true, true, true, true, true, true, true, true, true, true, true, true, true, true, true, true, true, true, true, true, false, false, false, false, false, false, false, false]
abbrev bqFx59_23 : Array Bool := #[true, true, true, true, true, true, true, true, true, true, true, true, true, true, true, true, true, true, true, true, true, true, true, false, false, false, false, false, false, false]
abbrev bqFx59_24 : Array Bool := #[true, true, true, true, true, true, true, true, true, true, true, true, true, true, true, true, true, true, true, true, true, true, true, true, false, false, false, false, false, false]
abbrev bqFx59_25 : Array Bool := #[true, true, true, true, true, true, true, true, true, true, true, true, true, true, true, true, true, true, true, true, true, true, true, true, true, false, false, false, false, false]
abbrev bqFx59_26 : Array Bool := #[true, true, true, true, true, true, true, true, true, true, true, true, true, true, true, true, true, true, true, true, true, true, true, true, true, true, false, false, false, false]
abbrev bqFx59_27 : Array Bool := #[true, true, true, true, true, true, true, true, true, true, true, true, true, true, true, true, true, true, true, true, true, true, true, true, true, true, true, false, false, false]
abbrev bqFx59_28 : Array Bool := #[true, true, true, true, true, true, true, true, true, true, true, true, true, true, true, true, true, true, true, true, true, true, true, true, true, true, true, true, false, false]
abbrev bqFx59_29 : Array Bool := #[true, true, true, true, true, true, true, true, true, true, true, true, true, true, true, true, true, true, true, true, true, true, true, true, true, true, true, true, true, false]
abbrev bqFx59_30 : Array Bool := #[true, true, true, true, true, true, true, true, true, true, true, true, true, true, true, true, true, true, true, true, true, true, true, true, true, true, true, true, true, true]
abbrev bqFx59_31 : Array Bool := #[true, true, true, true, true, true, false, true, false, false, false, false, false, false, false, false, false, false, false, false, false, false, false, false, false, false, false, false, false, false]
abbrev bqFx59_32 : Array Bool := #[true, true, true, true, true, true, true, true, true, true, true, true, true, true, true, true, true, true, false, true, false, false, false, false, false, false, false, false, false, false]
abbrev bqFx59_33 : Array Bool := #[true, true, true, true, true, true, true, true, true, true, true, true, true, true, true, true, true, true, false, true, true, false, false, false, false, false, false, false, false, false]
abbrev bqFx59_34 : Array Bool := #[true, true, true, true, true, true, true, true, true, true, true, true, true, true, true, true, true, true, false, true, true, false, false, false, true, false, false, false, false, false]
abbrev bqFx59_35 : Array Bool := #[true, true, true, true, true, true, true, true, true, true, true, true, true, true, true, true, true, true, true, true, true, false, false, false, true, false, false, false, false, false]
abbrev bqFx59_36 : Array Bool := #[true, true, true, true, true, true, true, true, true, true, true, true, true, true, true, true, true, true, true, true, true, true, false, false, true, false, false, false, false, false]
abbrev bqFx59_37 : Array Bool := #[true, true, true, true, true, true, true, true, true, true, true, true, true, true, true, true, true, true, true, true, true, true, true, false, true, false, false, false, false, false]
open Go.RowKit Go.Proofs.YtmeggliapebkgaaW.PrintWords Go.Proofs.YtmeggliapebkgaaW.PrintLast Go.Proofs.YtmeggliapebkgaaW.PrintMore
attribute [local go_sem] max2_int min2_int max_two min_two max_three min_three max_four min_four   
set_option linter.unusedVariables false
set_option linter.unusedSimpArgs false
mutual
def impl_IsSum.j0 : Nat → Bool → Int → List (S115) → Option (Bool)
 | 0, _, _, _ => none
 | k + 1, x14, x591002000, x591002001 => if x14 = true then (some false) else (impl_IsSum.l0 k x591002001 (x591002001.length : Int) 0 x591002000 x591002001)
def impl_IsSum.l0 : Nat → List (S115) → Int → Int → Int → List (S115) → Option (Bool)
 | 0, _, _, _, _, _ => none
 | k + 1, x16, x17, x18, x591002000, x591002001 => if x18 < x17 then (if 0 ≤ x18 then (if x18 < (x16.length : Int) then ((impl_IsWord.f k ((rd_T115 x16 x18).f0)).bind fun t591005 => (if t591005 = true then ((impl_in.f ((rd_T115 x16 x18).f1) 1 (wrap64 (x591002000 - 1))).bind fun t591006 => (if t591006 = true then (if x18 > 0 then (if 0 ≤ (wrap64 (x18 - 1)) then (if (wrap64 (x18 - 1)) < (x591002001.length : Int) then ((impl_wordOrder.f k ((rd_T115 x591002001 (wrap64 (x18 - 1))).f0) ((rd_T115 x16 x18).f0)).bind fun t591008 => (if t591008 ≥ 0 then (some false) else (impl_IsSum.l0 k x16 x17 (wrap64 (x18 + 1)) x591002000 x591002001))) else (none)) else (none)) else (impl_IsSum.l0 k x16 x17 (wrap64 (x18 + 1)) x591002000 x591002001)) else (some false))) else (some false))) else (none)) else (none)) else (some true)
end
def impl_IsSum.f (k : Nat) (a0_0 : Int) (l0_1 : List (S115)) : Option (Bool) := (impl_isPrime.f k a0_0).bind fun t591002 => (if t591002 = true then (impl_IsSum.j0 k (decide ((l0_1.length : Int) > 200)) a0_0 l0_1) else (impl_IsSum.j0 k true a0_0 l0_1))
theorem impl_IsSum.mono_l : ∀ k, (∀ y0 y1 y2, LeO (impl_IsSum.j0 k y0 y1 y2) (impl_IsSum.j0 (k + 1) y0 y1 y2)) ∧ (∀ y0 y1 y2 y3 y4, LeO (impl_IsSum.l0 k y0 y1 y2 y3 y4) (impl_IsSum.l0 (k + 1) y0 y1 y2 y3 y4))
 | 0 => ⟨fun _ _ _ r h => by simp [impl_IsSum.j0] at h, fun _ _ _ _ _ r h => by simp [impl_IsSum.l0] at h⟩
 | k + 1 => by
  obtain ⟨ih0, ih1⟩ := impl_IsSum.mono_l k
  refine ⟨?_, ?_⟩
  ·intro y0 y1 y2
   unfold impl_IsSum.j0
   repeat' first
   | (with_reducible exact ih0 _ _ _)
   | (with_reducible exact ih1 _ _ _ _ _)
   | (with_reducible exact impl_IsWord.mono _ _)
   | (with_reducible exact impl_isPrime.mono _ _)
   | (with_reducible exact impl_wordOrder.mono _ _ _)
   | (with_reducible exact LeO.refl _)
   | (with_reducible exact LeO.none _)
   | (with_reducible refine LeO.ite ?_ ?_)
   | (with_reducible refine LeO.bind ?_ (fun _ => ?_))
   | exact ih0 _ _ _
   | exact ih1 _ _ _ _ _
   | exact impl_IsWord.mono _ _
   | exact impl_isPrime.mono _ _
   | exact impl_wordOrder.mono _ _ _
   | exact LeO.none _
   | refine LeO.ite ?_ ?_
   | refine LeO.bind ?_ (fun _ => ?_)
  ·intro y0 y1 y2 y3 y4
   unfold impl_IsSum.l0
   repeat' first
   | (with_reducible exact ih0 _ _ _)
   | (with_reducible exact ih1 _ _ _ _ _)
   | (with_reducible exact impl_IsWord.mono _ _)
   | (with_reducible exact impl_isPrime.mono _ _)
   | (with_reducible exact impl_wordOrder.mono _ _ _)
   | (with_reducible exact LeO.refl _)
   | (with_reducible exact LeO.none _)
   | (with_reducible refine LeO.ite ?_ ?_)
   | (with_reducible refine LeO.bind ?_ (fun _ => ?_))
   | exact ih0 _ _ _
   | exact ih1 _ _ _ _ _
   | exact impl_IsWord.mono _ _
   | exact impl_isPrime.mono _ _
   | exact impl_wordOrder.mono _ _ _
   | exact LeO.none _
   | refine LeO.ite ?_ ?_
   | refine LeO.bind ?_ (fun _ => ?_)
theorem impl_IsSum.mono : ∀ a0 a1 k, LeO (impl_IsSum.f k a0 a1) (impl_IsSum.f (k + 1) a0 a1) := by
 intro a0 a1 k
 obtain ⟨ih0, ih1⟩ := impl_IsSum.mono_l k
 unfold impl_IsSum.f
 repeat' first
   | (with_reducible exact ih0 _ _ _)
   | (with_reducible exact ih1 _ _ _ _ _)
   | (with_reducible exact impl_IsWord.mono _ _)
   | (with_reducible exact impl_isPrime.mono _ _)
   | (with_reducible exact impl_wordOrder.mono _ _ _)
   | (with_reducible exact LeO.refl _)
   | (with_reducible exact LeO.none _)
   | (with_reducible refine LeO.ite ?_ ?_)
   | (with_reducible refine LeO.bind ?_ (fun _ => ?_))
   | exact ih0 _ _ _
   | exact ih1 _ _ _ _ _
   | exact impl_IsWord.mono _ _
   | exact impl_isPrime.mono _ _
   | exact impl_wordOrder.mono _ _ _
   | exact LeO.none _
   | refine LeO.ite ?_ ?_
   | refine LeO.bind ?_ (fun _ => ?_)
def impl_IsSum.T6 : Bool × List (List Nat × List Nat) := (true, [([], []), ([0], [0]), ([1], [1]), ([2], [2]), ([3, 2], [3]), ([4], [4]), ([5, 4], [4, 5]), ([4], [4]), ([7, 4], [4, 7]), ([8, 4], [4, 8]), ([6, 9, 4, 4], [4, 6, 9]), ([10, 4], [4, 10]), ([4, 11], [4, 11]), ([12, 10], [12]), ([13], [13]), ([14, 13], [13, 14]), ([15, 13, 13], [13, 15]), ([16], [16]), ([17, 16], [16, 17]), ([16], [16]), ([19, 16], [16, 19]), ([18, 20, 16], [16, 18, 20]), ([21, 16], [16, 21]), ([22, 16], [16, 22]), ([16], [16]), ([24, 16], [16, 24]), ([23, 25, 16, 16], [16, 23, 25]), ([26, 16], [16, 26]), ([16, 27, 13], [13, 16, 27]), ([13, 28], [13, 28])])
def impl_IsSum.B6 : List Nat := [0, 1, 3, 7, 15, 31, 63, 31, 159, 415, 1023, 2047, 4095, 8191, 16383, 32767, 65535, 131071, 262143, 131071, 655359, 2097151, 4194303, 8388607, 131071, 16908287, 67108863, 134217727, 268435455, 536870911]
theorem impl_IsSum.tab6 : rtab .any (opsOf Try.f59 6) = impl_IsSum.T6 := by kernel_rfl
theorem impl_IsSum.bits6 : waitsOk impl_IsSum.T6.2 impl_IsSum.B6 = true := by kernel_rfl
set_option maxHeartbeats 8000000 in
set_option maxRecDepth 100000 in
theorem impl_IsSum.calls (k : Nat) (a0_0 : Int) (A0_1 : Option Addr) (c0_1 : Nat) (l0_1 : List (S115)) (r : Bool) (w : World) (hr0_1 : Kd.C k115 w A0_1 l0_1.length l0_1) (hc0_1 : l0_1.length ≤ c0_1) (h : impl_IsSum.f k a0_0 l0_1 = some r) :
  Calls Try.prog 59 #[.agg #[.int .i64 a0_0, .slice A0_1 l0_1.length c0_1]] w fun e w' => e = .returned (.bool r) ∧ Below w.heap.size w w' := by
 have hu46 := Try.underlying46
 have hu115 := Try.underlying115
 have HR0_1 := Aside0.mk hr0_1
 have HC0_1 := Aside0.mk hc0_1
 clear hr0_1 hc0_1
 have HB := Aside0.mk (Below.refl w.heap.size w)
 have H : ((impl_isPrime.f k a0_0).bind fun t591002 => (if t591002 = true then (impl_IsSum.j0 k (decide ((l0_1.length : Int) > 200)) a0_0 l0_1) else (impl_IsSum.j0 k true a0_0 l0_1))) = some r := h
 clear h
 have HC2 := Aside0.mk H
 clear H
 go_enter Try.func59, Try.ntmps59
 go_upto_region 1 with (first | ((with_reducible refine gate_dst (N := 1) rfl ?_); (try (refine gate_guard (by rfl) ?_; dsimp only)); refine box_event ?hg (N := 1) ?hd (cs := #[.int .i64 a0_0, .slice A0_1 l0_1.length c0_1]) (t := 46) ?hr ?_; (case hd => rfl); (case hg => rfl); (case hr => first | (go_simp; done) | (go_simp; rfl)); intro gb591001 hg w3 hbox hb; have n0_ := Aside0.mk (below_step (by repeat (first | (with_reducible first | exact HB.out | apply below_alloc | apply pw_below_drewN | apply below_drew1) | exact HB.out)) hb); have n1_ := Aside0.mk (hbox); have n2_ := Aside0.mk ((by rw [hg]; exact (below_size (by repeat (first | (with_reducible first | exact HB.out | apply below_alloc | apply pw_below_drewN | apply below_drew1) | exact HB.out))) : w.heap.size ≤ gb591001)); have n3_ := Aside0.mk ((by rw [hg]; exact (below_size (by repeat (first | (with_reducible first | exact HB.out | apply below_alloc | apply pw_below_drewN | apply below_drew1) | exact HB.out))) : w.heap.size ≤ gb591001)); clear HB; have HB := n0_; have BK591001 := n1_; have GW591001 := n2_; have GE591001 := n3_; clear n0_ n1_ n2_ n3_; clear hb hbox hg))
 (try simp only [Act.put, List.setIfInBounds_toArray, List.set_cons_zero, List.set_cons_succ])
 go_cut [14] (fun v14 wc => ∃ (kq : Nat) (x14_1 : Bool), v14 = .bool x14_1 ∧ Aside0 (impl_IsSum.j0 kq x14_1 a0_0 l0_1 = some r) ∧ Aside0 (kq ≤ k) ∧ Aside0 (wc.heap[gb591001]? = some (.cells #[.int .i64 a0_0, (.slice A0_1 l0_1.length c0_1)] 46 (0, 0))) ∧ Aside0 (Below w.heap.size w wc))
 case first =>
  have H := HC2.out
  clear HC2
  replace H := Option.bind_eq_some_iff.mp H
  obtain ⟨t591002, A40, H⟩ := H
  replace H : (if t591002 = true then (impl_IsSum.j0 k (decide ((l0_1.length : Int) > 200)) a0_0 l0_1) else (impl_IsSum.j0 k true a0_0 l0_1)) = some r := H
  have A4 := Aside0.mk A40
  clear A40
  by_cases c5 : t591002 = true
  rotate_left
  ·replace c5 := Bool.eq_false_iff.mpr c5
   subst c5
   have H1 : (impl_IsSum.j0 k true a0_0 l0_1) = some r := by rw [if_neg (show ¬ (false = true) by decide)] at H; exact H
   clear H
   have H := H1
   clear H1
   have H' := Aside0.mk H
   clear H
   have hcz9_0 : w3.cell? ⟨gb591001, 0, none⟩ = some (.int .i64 a0_0) := (blk_cell BK591001.out 0).trans rfl
   have hcz9_1 : w3.cell? ⟨gb591001, 1, none⟩ = some (.slice A0_1 l0_1.length c0_1) := (blk_cell BK591001.out 1).trans rfl
   have hfz9_0 := blk_frozen BK591001.out 0
   have hfz9_1 := blk_frozen BK591001.out 1
   go_wp2_with (first | ((with_reducible refine gate_callee (f := 117) rfl ?_); refine goesL_ (some 7) rfl rfl Try.func117 (by kernel_rfl) rfl #[.int .i64 a0_0] rfl (by (try simp only [List.map_toArray, List.map_cons, List.map_nil]); first | done | rfl | (simp only [List.length_drop, List.length_take]; rfl)) ?_; (with_reducible refine (impl_isPrime.calls k a0_0 false _ A4.out).mono ?_); rintro e w10 ⟨rfl, hb⟩; refine ⟨_, rfl, ?_⟩; have n0_ := Aside0.mk (blk_below (g := gb591001) (o := .cells #[.int .i64 a0_0, .slice A0_1 l0_1.length c0_1] 46 (0, 0)) (by (with_reducible repeat (first | refine blk_drewN ?_ _ | refine blk_drew ?_ | refine blk_alloc ?_ _)); exact BK591001.out) hb); have n1_ := Aside0.mk (below_step (by repeat (first | (with_reducible first | exact HB.out | apply below_alloc | apply pw_below_drewN | apply below_drew1 | refine below_set ?_ GE591001.out) | exact HB.out)) hb); clear BK591001; clear HB; have BK591001 := n0_; have HB := n1_; clear n0_ n1_; (try clear hb); (try clear hb2); (try clear hk); (try clear hi)))
   go_meet
   case rel => exact ⟨_, (true), (by first | rfl | (simp; done) | (simp [*]; done)), H', ⟨by first | omega | exact Nat.le_refl _⟩, ⟨by (with_reducible repeat (first | refine blk_drewN ?_ _ | refine blk_drew ?_ | refine blk_alloc ?_ _)); exact BK591001.out⟩, ⟨by repeat (first | (with_reducible first | exact HB.out | apply below_alloc | apply pw_below_drewN | apply below_drew1 | refine below_set ?_ GE591001.out) | exact HB.out)⟩⟩
  subst c5
  have H1 : (impl_IsSum.j0 k (decide ((l0_1.length : Int) > 200)) a0_0 l0_1) = some r := by rw [if_pos rfl] at H; exact H
  clear H
  have H := H1
  clear H1
  have H' := Aside0.mk H
  clear H
  have hcz6_0 : w3.cell? ⟨gb591001, 0, none⟩ = some (.int .i64 a0_0) := (blk_cell BK591001.out 0).trans rfl
  have hcz6_1 : w3.cell? ⟨gb591001, 1, none⟩ = some (.slice A0_1 l0_1.length c0_1) := (blk_cell BK591001.out 1).trans rfl
  have hfz6_0 := blk_frozen BK591001.out 0
  have hfz6_1 := blk_frozen BK591001.out 1
  go_wp2_with (first | ((with_reducible refine gate_callee (f := 117) rfl ?_); refine goesL_ (some 7) rfl rfl Try.func117 (by kernel_rfl) rfl #[.int .i64 a0_0] rfl (by (try simp only [List.map_toArray, List.map_cons, List.map_nil]); first | done | rfl | (simp only [List.length_drop, List.length_take]; rfl)) ?_; (with_reducible refine (impl_isPrime.calls k a0_0 true _ A4.out).mono ?_); rintro e w7 ⟨rfl, hb⟩; refine ⟨_, rfl, ?_⟩; have n0_ := Aside0.mk (blk_below (g := gb591001) (o := .cells #[.int .i64 a0_0, .slice A0_1 l0_1.length c0_1] 46 (0, 0)) (by (with_reducible repeat (first | refine blk_drewN ?_ _ | refine blk_drew ?_ | refine blk_alloc ?_ _)); exact BK591001.out) hb); have n1_ := Aside0.mk (below_step (by repeat (first | (with_reducible first | exact HB.out | apply below_alloc | apply pw_below_drewN | apply below_drew1 | refine below_set ?_ GE591001.out) | exact HB.out)) hb); clear BK591001; clear HB; have BK591001 := n0_; have HB := n1_; clear n0_ n1_; (try clear hb); (try clear hb2); (try clear hk); (try clear hi); have hcz8_0 : w7.cell? ⟨gb591001, 0, none⟩ = some (.int .i64 a0_0) := (blk_cell BK591001.out 0).trans rfl; have hcz8_1 : w7.cell? ⟨gb591001, 1, none⟩ = some (.slice A0_1 l0_1.length c0_1) := (blk_cell BK591001.out 1).trans rfl; have hfz8_0 := blk_frozen BK591001.out 0; have hfz8_1 := blk_frozen BK591001.out 1))
  go_meet
  case rel => exact ⟨_, (decide ((l0_1.length : Int) > 200)), (by first | rfl | (simp; done) | (simp [*]; done)), H', ⟨by first | omega | exact Nat.le_refl _⟩, ⟨by (with_reducible repeat (first | refine blk_drewN ?_ _ | refine blk_drew ?_ | refine blk_alloc ?_ _)); exact BK591001.out⟩, ⟨by repeat (first | (with_reducible first | exact HB.out | apply below_alloc | apply pw_below_drewN | apply below_drew1 | refine below_set ?_ GE591001.out) | exact HB.out)⟩⟩
 case rest =>
  clear HC2
  try clear c1
  try clear p2
  try clear c5
  try clear hcz6_0
  try clear hcz6_1
  try clear hcz8_0
  try clear hcz8_1
  try clear hcz9_0
  try clear hcz9_1
  try clear hfz6_0
  try clear hfz6_1
  try clear hfz8_0
  try clear hfz8_1
  try clear hfz9_0
  try clear hfz9_1
  obtain ⟨kq, x14_1, rfl, HA, HJ1, BK591001, HB⟩ := hcut
  cases kq with
  | zero => exact absurd HA.out (by simp [impl_IsSum.j0])
  | succ kj1 =>
   have H := HA.out
   clear HA
   simp only [impl_IsSum.j0] at H
   by_cases c11 : x14_1 = true
   ·subst c11
    have H1 : (some false) = some r := by rw [if_pos rfl] at H; exact H
    clear H
    have H := H1
    clear H1
    obtain rfl := Option.some.inj H
    go_wp2
    go_ret
    exact ⟨by first | rfl | (simp [errW_none, errW_some] <;> rfl) | (simp [*, errW_none, errW_some] <;> rfl), by repeat (first | (with_reducible first | exact HB.out | apply below_alloc | apply pw_below_drewN | apply below_drew1 | refine below_set ?_ GE591001.out) | exact HB.out)⟩
   replace c11 := Bool.eq_false_iff.mpr c11
   subst c11
   have H1 : (impl_IsSum.l0 kj1 l0_1 (l0_1.length : Int) 0 a0_0 l0_1) = some r := by rw [if_neg (show ¬ (false = true) by decide)] at H; exact H
   clear H
   have H := H1
   clear H1
   have H' := Aside0.mk H
   clear H
   have hcz12_0 : wc.cell? ⟨gb591001, 0, none⟩ = some (.int .i64 a0_0) := (blk_cell BK591001.out 0).trans rfl
   have hcz12_1 : wc.cell? ⟨gb591001, 1, none⟩ = some (.slice A0_1 l0_1.length c0_1) := (blk_cell BK591001.out 1).trans rfl
   have hfz12_0 := blk_frozen BK591001.out 0
   have hfz12_1 := blk_frozen BK591001.out 1
   go_wp2
   go_loopg [18] kj1 (fun kq v18 w' => ∃ (x18_2 : Int), v18 = .int .i64 x18_2 ∧ Aside0 (impl_IsSum.l0 kq l0_1 (l0_1.length : Int) x18_2 a0_0 l0_1 = some r) ∧ Aside0 (kq ≤ kj1) ∧ Aside0 (w'.heap[gb591001]? = some (.cells #[.int .i64 a0_0, (.slice A0_1 l0_1.length c0_1)] 46 (0, 0))) ∧ Aside0 (Below w.heap.size w w'))
   case atStart => exact ⟨(0), (by first | rfl | (simp; done) | (simp [*]; done)), H', ⟨Nat.le_refl _⟩, ⟨by (with_reducible repeat (first | refine blk_drewN ?_ _ | refine blk_drew ?_ | refine blk_alloc ?_ _)); exact BK591001.out⟩, ⟨by repeat (first | (with_reducible first | exact HB.out | apply below_alloc | apply pw_below_drewN | apply below_drew1 | refine below_set ?_ GE591001.out) | exact HB.out)⟩⟩
   case round =>
    clear H'
    try clear c1
    try clear p2
    try clear c5
    try clear c11
    try clear hcz12_0
    try clear hcz12_1
    try clear hcz6_0
    try clear hcz6_1
    try clear hcz8_0
    try clear hcz8_1
    try clear hcz9_0
    try clear hcz9_1
    try clear hfz12_0
    try clear hfz12_1
    try clear hfz6_0
    try clear hfz6_1
    try clear hfz8_0
    try clear hfz8_1
    try clear hfz9_0
    try clear hfz9_1
    try clear p2
    obtain ⟨x18_2, rfl, HA, HK2, BK591001, HB⟩ := hrel
    cases gk with
    | zero => exact absurd HA.out (by simp [impl_IsSum.l0])
    | succ k2 =>
     have H := HA.out
     clear HA
     simp only [impl_IsSum.l0] at H
     by_cases c13 : x18_2 < (l0_1.length : Int)
     rotate_left
     ·rw [if_neg c13] at H
      have c13b0 : decide (x18_2 < (l0_1.length : Int)) = false := decide_eq_false c13
      clear c13
      obtain rfl := Option.some.inj H
      go_wp2
      go_ret
      exact ⟨by first | rfl | (simp [errW_none, errW_some] <;> rfl) | (simp [*, errW_none, errW_some] <;> rfl), by repeat (first | (with_reducible first | exact HB.out | apply below_alloc | apply pw_below_drewN | apply below_drew1 | refine below_set ?_ GE591001.out) | exact HB.out)⟩
     rw [if_pos c13] at H
     have c13b0 : decide (x18_2 < (l0_1.length : Int)) = true := decide_eq_true c13
     clear c13
     by_cases c14 : 0 ≤ x18_2
     rotate_left
     ·rw [if_neg c14] at H
      exact absurd H (by simp)
     rw [if_pos c14] at H
     have c14b0 : decide (0 ≤ x18_2) = true := decide_eq_true c14
     clear c14
     by_cases c15 : x18_2 < (l0_1.length : Int)
     rotate_left
     ·rw [if_neg c15] at H
      exact absurd H (by simp)
     rw [if_pos c15] at H
     have c15b0 : decide (x18_2 < (l0_1.length : Int)) = true := decide_eq_true c15
     clear c15
     replace H := Option.bind_eq_some_iff.mp H
     obtain ⟨t591005, A160, H⟩ := H
     replace H : (if t591005 = true then ((impl_in.f ((rd_T115 l0_1 x18_2).f1) 1 (wrap64 (a0_0 - 1))).bind fun t591006 => (if t591006 = true then (if x18_2 > 0 then (if 0 ≤ (wrap64 (x18_2 - 1)) then (if (wrap64 (x18_2 - 1)) < (l0_1.length : Int) then ((impl_wordOrder.f k2 ((rd_T115 l0_1 (wrap64 (x18_2 - 1))).f0) ((rd_T115 l0_1 x18_2).f0)).bind fun t591008 => (if t591008 ≥ 0 then (some false) else (impl_IsSum.l0 k2 l0_1 (l0_1.length : Int) (wrap64 (x18_2 + 1)) a0_0 l0_1))) else (none)) else (none)) else (impl_IsSum.l0 k2 l0_1 (l0_1.length : Int) (wrap64 (x18_2 + 1)) a0_0 l0_1)) else (some false))) else (some false)) = some r := H
     have A16 := Aside0.mk A160
     clear A160
     by_cases c17 : t591005 = true
     rotate_left
     ·replace c17 := Bool.eq_false_iff.mpr c17
      subst c17
      have H1 : (some false) = some r := by rw [if_neg (show ¬ (false = true) by decide)] at H; exact H
      clear H
      have H := H1
      clear H1
      obtain rfl := Option.some.inj H
      have p591003 : 0 ≤ (x18_2 : Int) := of_decide_eq_true (by first | (with_reducible assumption) | assumption)
      have q591003 : x18_2 < (l0_1.length : Int) := of_decide_eq_true (by first | (with_reducible assumption) | assumption)
      obtain ⟨ad591003, A591003_0, c591003_0, e591003, hx591003_0, hx591003_1, hl591003_0, hi591003_0⟩ := at_T115 HR0_1.out x18_2 p591003 q591003
      cases e591003
      replace hx591003_0 := (HB.out.cell (World.block_lt_of_cell? w _ hx591003_0)).trans hx591003_0
      replace hx591003_1 := (HB.out.cell (World.block_lt_of_cell? w _ hx591003_1)).trans hx591003_1
      have HR591003_0 := Aside0.mk hi591003_0
      have HC591003_0 := Aside0.mk hl591003_0
      clear hi591003_0 hl591003_0
      replace p591003 := eq_true p591003
      replace q591003 := eq_true q591003
      try go_wp2_with (first | ((with_reducible refine gate_dst (N := 4) rfl ?_); (try (refine gate_guard (by rfl) ?_; dsimp only)); refine box_event ?hg (N := 4) ?hd (cs := #[.slice none 0 0, .int .i64 0]) (t := 115) ?hr ?_; (case hd => rfl); (case hg => rfl); (case hr => first | (go_simp; done) | (go_simp; rfl)); intro gb591004 hg w52 hbox hb; have n0_ := Aside0.mk (blk_below (g := gb591001) (o := .cells #[.int .i64 a0_0, .slice (some ad591003) l0_1.length c0_1] 46 (0, 0)) (by (with_reducible repeat (first | refine blk_drewN ?_ _ | refine blk_drew ?_ | refine blk_alloc ?_ _)); exact BK591001.out) hb); have n1_ := Aside0.mk (below_step (by repeat (first | (with_reducible first | exact HB.out | apply below_alloc | apply pw_below_drewN | apply below_drew1 | refine below_set ?_ GE591001.out) | exact HB.out)) hb); have n2_ := Aside0.mk (hbox); have n3_ := Aside0.mk ((by rw [hg]; exact (below_size (by repeat (first | (with_reducible first | exact HB.out | apply below_alloc | apply pw_below_drewN | apply below_drew1 | refine below_set ?_ GE591001.out) | exact HB.out))) : w.heap.size ≤ gb591004)); have n4_ := Aside0.mk ((by rw [hg]; exact (below_size (by repeat (first | (with_reducible first | exact HB.out | apply below_alloc | apply pw_below_drewN | apply below_drew1 | refine below_set ?_ GE591001.out) | exact HB.out))) : w.heap.size ≤ gb591004)); have n5_ := Aside0.mk ((by rw [hg]; exact Nat.ne_of_lt (blk_lt (g := gb591001) (o := .cells #[.int .i64 a0_0, .slice (some ad591003) l0_1.length c0_1] 46 (0, 0)) (by (with_reducible repeat (first | refine blk_drewN ?_ _ | refine blk_drew ?_ | refine blk_alloc ?_ _)); exact BK591001.out)) : gb591001 ≠ gb591004)); have n6_ := Aside0.mk ((by rw [hg]; exact Nat.ne_of_gt (blk_lt (g := gb591001) (o := .cells #[.int .i64 a0_0, .slice (some ad591003) l0_1.length c0_1] 46 (0, 0)) (by (with_reducible repeat (first | refine blk_drewN ?_ _ | refine blk_drew ?_ | refine blk_alloc ?_ _)); exact BK591001.out)) : gb591004 ≠ gb591001)); clear BK591001; clear HB; have BK591001 := n0_; have HB := n1_; have BK591004 := n2_; have GW591004 := n3_; have GE591004 := n4_; have NB591001_591004 := n5_; have NB591004_591001 := n6_; clear n0_ n1_ n2_ n3_ n4_ n5_ n6_; clear hb hbox hg; have hnb53 := NB591004_591001.out; have hnc53 := NB591001_591004.out; have hcz54_0 : w52.cell? ⟨gb591004, 0, none⟩ = some (.slice none 0 0) := (blk_cell BK591004.out 0).trans rfl; have hcz54_1 : w52.cell? ⟨gb591004, 1, none⟩ = some (.int .i64 0) := (blk_cell BK591004.out 1).trans rfl; have hfz54_0 := blk_frozen BK591004.out 0; have hfz54_1 := blk_frozen BK591004.out 1))
      have n0_ : Aside0 (((w52.setCell ⟨gb591004, 0, none⟩ (.slice A591003_0 ((rd_T115 l0_1 x18_2).f0).length c591003_0)).setCell ⟨gb591004, 1, none⟩ (.int .i64 ((rd_T115 l0_1 x18_2).f1))).heap[gb591001]? = some (.cells #[.int .i64 a0_0, .slice (some ad591003) l0_1.length c0_1] 46 (0, 0))) := ⟨by (with_reducible repeat (first | refine blk_drewN ?_ _ | refine blk_drew ?_ | refine blk_alloc ?_ _)); refine blk_far ?_ NB591001_591004.out _; (with_reducible repeat (first | refine blk_drewN ?_ _ | refine blk_drew ?_ | refine blk_alloc ?_ _)); refine blk_far ?_ NB591001_591004.out _; (with_reducible repeat (first | refine blk_drewN ?_ _ | refine blk_drew ?_ | refine blk_alloc ?_ _)); exact BK591001.out⟩
      have n1_ : Aside0 (((w52.setCell ⟨gb591004, 0, none⟩ (.slice A591003_0 ((rd_T115 l0_1 x18_2).f0).length c591003_0)).setCell ⟨gb591004, 1, none⟩ (.int .i64 ((rd_T115 l0_1 x18_2).f1))).heap[gb591004]? = some (.cells #[.slice A591003_0 ((rd_T115 l0_1 x18_2).f0).length c591003_0, .int .i64 ((rd_T115 l0_1 x18_2).f1)] 115 (0, 0))) := ⟨by (with_reducible repeat (first | refine blk_drewN ?_ _ | refine blk_drew ?_ | refine blk_alloc ?_ _)); refine blk_put (cs := #[.slice A591003_0 ((rd_T115 l0_1 x18_2).f0).length c591003_0, .int .i64 0]) ?_ 1 _ rfl; (with_reducible repeat (first | refine blk_drewN ?_ _ | refine blk_drew ?_ | refine blk_alloc ?_ _)); refine blk_put (cs := #[.slice none 0 0, .int .i64 0]) ?_ 0 _ rfl; (with_reducible repeat (first | refine blk_drewN ?_ _ | refine blk_drew ?_ | refine blk_alloc ?_ _)); exact BK591004.out⟩
      have n2_ : Aside0 (Below w.heap.size w ((w52.setCell ⟨gb591004, 0, none⟩ (.slice A591003_0 ((rd_T115 l0_1 x18_2).f0).length c591003_0)).setCell ⟨gb591004, 1, none⟩ (.int .i64 ((rd_T115 l0_1 x18_2).f1)))) := ⟨by repeat (first | (with_reducible first | exact HB.out | apply below_alloc | apply pw_below_drewN | apply below_drew1 | refine below_set ?_ GE591001.out | refine below_set ?_ GE591004.out) | exact HB.out)⟩
      (try clear BK591001)
      (try clear BK591004)
      (try clear HB)
      generalize ((w52.setCell ⟨gb591004, 0, none⟩ (.slice A591003_0 ((rd_T115 l0_1 x18_2).f0).length c591003_0)).setCell ⟨gb591004, 1, none⟩ (.int .i64 ((rd_T115 l0_1 x18_2).f1))) = w55 at n0_ n1_ n2_ ⊢
      have BK591001 := n0_
      have BK591004 := n1_
      have HB := n2_
      clear n0_ n1_ n2_
      have n0_ := Aside0.mk (blk_drew BK591001.out)
      have n1_ := Aside0.mk (blk_drew BK591004.out)
      have n2_ := Aside0.mk (below_drew1 HB.out)
      clear BK591001
      clear BK591004
      clear HB
      have BK591001 := n0_
      have BK591004 := n1_
      have HB := n2_
      clear n0_ n1_ n2_
      refine start_ (n := 30) (S := fun w' => w'.cell? ⟨gb591004, 0, none⟩ = some (.slice A591003_0 ((rd_T115 l0_1 x18_2).f0).length c591003_0) ∧ w'.cell? ⟨gb591004, 1, none⟩ = some (.int .i64 ((rd_T115 l0_1 x18_2).f1))) (ds := []) bqFx59_0 (by kernel_rfl) rfl rfl ⟨(blk_cell BK591004.out 0).trans rfl, (blk_cell BK591004.out 1).trans rfl⟩ (fun hHeld => ?_); refine with_tabW impl_IsSum.tab6 impl_IsSum.bits6 (fun HT_ HW_ => ?_)
      generalize w55.drew = w56 at BK591001 BK591004 HB hHeld ⊢
      refine pure_ (i := 0) (N := some 23) (v := ?_) (a' := ?_) bqFx59_1 rfl rfl (any_of HT_.out (by kernel_rfl)) (fun _ _ _ h => h) (Or.inl ⟨by rfl, ?_⟩) ?_ ?_
      rotate_left
      ·intro w'
       go_simp
       with_reducible rfl
      rotate_left
      ·simp only [Act.put, List.setIfInBounds_toArray, List.set_cons_zero, List.set_cons_succ, i64_w, i32_w]
       rfl
      refine take_ (i := 1) (N := some 24) (v := ?_) (a' := ?_) bqFx59_2 rfl rfl (take_ofW HT_.out HW_.out (by kernel_rfl)) (fun _ _ _ h => h) (Or.inl ⟨by rfl, ?_⟩) hHeld ?_ ?_
      rotate_left
      ·rintro w' ⟨s0, s1⟩
       go_simp
       with_reducible rfl
      rotate_left
      ·simp only [Act.put, List.setIfInBounds_toArray, List.set_cons_zero, List.set_cons_succ, i64_w, i32_w]
       rfl
      refine one_ (i := 2) (N := some 25) bqFx59_3 rfl rfl (one_of HT_.out (by kernel_rfl)) (by decide) (fun K hK => ?_)
      refine goes_ Try.func58 (by kernel_rfl) rfl #[.slice A591003_0 ((rd_T115 l0_1 x18_2).f0).length c591003_0] (by rfl) rfl rfl (by (try simp only [List.map_toArray, List.map_cons, List.map_nil]); first | done | rfl | (simp only [List.length_drop, List.length_take]; rfl)) ?_
      with_reducible refine (impl_IsWord.calls k2 _ _ ((rd_T115 l0_1 x18_2).f0) false _ ?side1 ?side2 A16.out).mono ?_
      (case side1 => repeat (first | exact (Kd.C_below HR591003_0.out HB.out) | (with_reducible refine Kd.C_alloc ?_ _) | (with_reducible refine Kd.C_drewN ?_ _) | (with_reducible refine Kd.C_drew ?_)))
      (case side2 => exact HC591003_0.out)
      rintro e w57 ⟨rfl, hb⟩
      refine ⟨_, rfl, ?_⟩
      have n0_ := Aside0.mk (blk_below (g := gb591001) (o := .cells #[.int .i64 a0_0, .slice (some ad591003) l0_1.length c0_1] 46 (0, 0)) (by (with_reducible repeat (first | refine blk_drewN ?_ _ | refine blk_drew ?_ | refine blk_alloc ?_ _)); exact BK591001.out) hb)
      have n1_ := Aside0.mk (blk_below (g := gb591004) (o := .cells #[.slice A591003_0 ((rd_T115 l0_1 x18_2).f0).length c591003_0, .int .i64 ((rd_T115 l0_1 x18_2).f1)] 115 (0, 0)) (by (with_reducible repeat (first | refine blk_drewN ?_ _ | refine blk_drew ?_ | refine blk_alloc ?_ _)); exact BK591004.out) hb)
      have n2_ := Aside0.mk (below_step (by repeat (first | (with_reducible first | exact HB.out | apply below_alloc | apply pw_below_drewN | apply below_drew1 | refine below_set ?_ GE591001.out | refine below_set ?_ GE591004.out) | exact HB.out)) hb)
      clear BK591001
      clear BK591004
      clear HB
      have BK591001 := n0_
      have BK591004 := n1_
      have HB := n2_
      clear n0_ n1_ n2_
      (try clear hb)
      (try clear hb2)
      (try clear hk)
      (try clear hi)
      refine hK.out _ _ ⟨(blk_cell BK591004.out 0).trans rfl, (blk_cell BK591004.out 1).trans rfl⟩ (fun hHeld => ?_)
      clear hK K
      refine norm_ (a' := ?_) ?_ ?_
      rotate_left
      ·show Act.put _ (some 25) _ = _
       simp only [Act.put, List.setIfInBounds_toArray, List.set_cons_zero, List.set_cons_succ, i64_w, i32_w]
       rfl
      refine pure_ (i := 3) (N := some 26) (v := ?_) (a' := ?_) bqFx59_4 rfl rfl (any_of HT_.out (by kernel_rfl)) (fun _ _ _ h => h) (Or.inl ⟨by rfl, ?_⟩) ?_ ?_
      rotate_left
      ·intro w'
       go_simp
       with_reducible rfl
      rotate_left
      ·simp only [Act.put, List.setIfInBounds_toArray, List.set_cons_zero, List.set_cons_succ, i64_w, i32_w]
       rfl
      refine pure_ (i := 4) (N := some 27) (v := ?_) (a' := ?_) bqFx59_5 rfl rfl (any_of HT_.out (by kernel_rfl)) (fun _ _ _ h => h) (Or.inl ⟨by rfl, ?_⟩) ?_ ?_
      rotate_left
      ·intro w'
       go_simp
       with_reducible rfl
      rotate_left
      ·simp only [Act.put, List.setIfInBounds_toArray, List.set_cons_zero, List.set_cons_succ, i64_w, i32_w]
       rfl
      refine pure_ (i := 5) (N := some 28) (v := undef) (a' := ?_) bqFx59_6 rfl rfl (any_of HT_.out (by kernel_rfl)) (fun _ _ _ h => h) (Or.inr ⟨by rfl, rfl⟩) ?_ ?_
      rotate_left
      ·simp only [Act.put, List.setIfInBounds_toArray, List.set_cons_zero, List.set_cons_succ, i64_w, i32_w]
       rfl
      refine pure_ (i := 6) (N := some 29) (v := undef) (a' := ?_) bqFx59_7 rfl rfl (any_of HT_.out (by kernel_rfl)) (fun _ _ _ h => h) (Or.inr ⟨by rfl, rfl⟩) ?_ ?_
      rotate_left
      ·simp only [Act.put, List.setIfInBounds_toArray, List.set_cons_zero, List.set_cons_succ, i64_w, i32_w]
       rfl
      refine pure_ (i := 7) (N := some 30) (v := undef) (a' := ?_) bqFx59_8 rfl rfl (any_of HT_.out (by kernel_rfl)) (fun _ _ _ h => h) (Or.inr ⟨by rfl, rfl⟩) ?_ ?_
      rotate_left
      ·simp only [Act.put, List.setIfInBounds_toArray, List.set_cons_zero, List.set_cons_succ, i64_w, i32_w]
       rfl
      refine pure_ (i := 8) (N := some 31) (v := undef) (a' := ?_) bqFx59_9 rfl rfl (any_of HT_.out (by kernel_rfl)) (fun _ _ _ h => h) (Or.inr ⟨by rfl, rfl⟩) ?_ ?_
      rotate_left
      ·simp only [Act.put, List.setIfInBounds_toArray, List.set_cons_zero, List.set_cons_succ, i64_w, i32_w]
       rfl
      refine pure_ (i := 9) (N := some 32) (v := undef) (a' := ?_) bqFx59_10 rfl rfl (any_of HT_.out (by kernel_rfl)) (fun _ _ _ h => h) (Or.inr ⟨by rfl, rfl⟩) ?_ ?_
      rotate_left
      ·simp only [Act.put, List.setIfInBounds_toArray, List.set_cons_zero, List.set_cons_succ, i64_w, i32_w]
       rfl
      refine pure_ (i := 10) (N := some 33) (v := undef) (a' := ?_) bqFx59_11 rfl rfl (any_of HT_.out (by kernel_rfl)) (fun _ _ _ h => h) (Or.inr ⟨by rfl, rfl⟩) ?_ ?_
      rotate_left
      ·simp only [Act.put, List.setIfInBounds_toArray, List.set_cons_zero, List.set_cons_succ, i64_w, i32_w]
       rfl
      refine pure_ (i := 11) (N := some 34) (v := undef) (a' := ?_) bqFx59_12 rfl rfl (any_of HT_.out (by kernel_rfl)) (fun _ _ _ h => h) (Or.inr ⟨by rfl, rfl⟩) ?_ ?_
      rotate_left
      ·simp only [Act.put, List.setIfInBounds_toArray, List.set_cons_zero, List.set_cons_succ, i64_w, i32_w]
       rfl
      refine pure_ (i := 12) (N := some 35) (v := ?_) (a' := ?_) bqFx59_13 rfl rfl (any_of HT_.out (by kernel_rfl)) (fun _ _ _ h => h) (Or.inl ⟨by rfl, ?_⟩) ?_ ?_
      rotate_left
      ·intro w'
       go_simp
       with_reducible rfl
      rotate_left
      ·simp only [Act.put, List.setIfInBounds_toArray, List.set_cons_zero, List.set_cons_succ, i64_w, i32_w]
       rfl
      refine pure_ (i := 13) (N := some 36) (v := ?_) (a' := ?_) bqFx59_14 rfl rfl (any_of HT_.out (by kernel_rfl)) (fun _ _ _ h => h) (Or.inl ⟨by rfl, ?_⟩) ?_ ?_
      rotate_left
      ·intro w'
       go_simp
       with_reducible rfl
      rotate_left
      ·simp only [Act.put, List.setIfInBounds_toArray, List.set_cons_zero, List.set_cons_succ, i64_w, i32_w]
       rfl
      refine pure_ (i := 14) (N := some 37) (v := undef) (a' := ?_) bqFx59_15 rfl rfl (any_of HT_.out (by kernel_rfl)) (fun _ _ _ h => h) (Or.inr ⟨by rfl, rfl⟩) ?_ ?_
      rotate_left
      ·simp only [Act.put, List.setIfInBounds_toArray, List.set_cons_zero, List.set_cons_succ, i64_w, i32_w]
       rfl
      refine pure_ (i := 15) (N := some 38) (v := undef) (a' := ?_) bqFx59_16 rfl rfl (any_of HT_.out (by kernel_rfl)) (fun _ _ _ h => h) (Or.inr ⟨by rfl, rfl⟩) ?_ ?_
      rotate_left
      ·simp only [Act.put, List.setIfInBounds_toArray, List.set_cons_zero, List.set_cons_succ, i64_w, i32_w]
       rfl
      refine pure_ (i := 16) (N := some 39) (v := undef) (a' := ?_) bqFx59_17 rfl rfl (any_of HT_.out (by kernel_rfl)) (fun _ _ _ h => h) (Or.inr ⟨by rfl, rfl⟩) ?_ ?_
      rotate_left
      ·simp only [Act.put, List.setIfInBounds_toArray, List.set_cons_zero, List.set_cons_succ, i64_w, i32_w]
       rfl
      refine pure_ (i := 17) (N := some 40) (v := undef) (a' := ?_) bqFx59_18 rfl rfl (any_of HT_.out (by kernel_rfl)) (fun _ _ _ h => h) (Or.inr ⟨by rfl, rfl⟩) ?_ ?_
      rotate_left
      ·simp only [Act.put, List.setIfInBounds_toArray, List.set_cons_zero, List.set_cons_succ, i64_w, i32_w]
       rfl
      refine pure_ (i := 18) (N := some 41) (v := undef) (a' := ?_) bqFx59_19 rfl rfl (any_of HT_.out (by kernel_rfl)) (fun _ _ _ h => h) (Or.inr ⟨by rfl, rfl⟩) ?_ ?_
      rotate_left
      ·simp only [Act.put, List.setIfInBounds_toArray, List.set_cons_zero, List.set_cons_succ, i64_w, i32_w]
       rfl
      refine pure_ (i := 19) (N := some 42) (v := undef) (a' := ?_) bqFx59_20 rfl rfl (any_of HT_.out (by kernel_rfl)) (fun _ _ _ h => h) (Or.inr ⟨by rfl, rfl⟩) ?_ ?_
      rotate_left
      ·simp only [Act.put, List.setIfInBounds_toArray, List.set_cons_zero, List.set_cons_succ, i64_w, i32_w]
       rfl
      refine pure_ (i := 20) (N := some 43) (v := undef) (a' := ?_) bqFx59_21 rfl rfl (any_of HT_.out (by kernel_rfl)) (fun _ _ _ h => h) (Or.inr ⟨by rfl, rfl⟩) ?_ ?_
      rotate_left
      ·simp only [Act.put, List.setIfInBounds_toArray, List.set_cons_zero, List.set_cons_succ, i64_w, i32_w]
       rfl
      refine pure_ (i := 21) (N := some 44) (v := undef) (a' := ?_) bqFx59_22 rfl rfl (any_of HT_.out (by kernel_rfl)) (fun _ _ _ h => h) (Or.inr ⟨by rfl, rfl⟩) ?_ ?_
      rotate_left
      ·simp only [Act.put, List.setIfInBounds_toArray, List.set_cons_zero, List.set_cons_succ, i64_w, i32_w]
       rfl
      refine pure_ (i := 22) (N := some 45) (v := undef) (a' := ?_) bqFx59_23 rfl rfl (any_of HT_.out (by kernel_rfl)) (fun _ _ _ h => h) (Or.inr ⟨by rfl, rfl⟩) ?_ ?_
      rotate_left
      ·simp only [Act.put, List.setIfInBounds_toArray, List.set_cons_zero, List.set_cons_succ, i64_w, i32_w]
       rfl
      refine pure_ (i := 23) (N := some 46) (v := undef) (a' := ?_) bqFx59_24 rfl rfl (any_of HT_.out (by kernel_rfl)) (fun _ _ _ h => h) (Or.inr ⟨by rfl, rfl⟩) ?_ ?_
      rotate_left
      ·simp only [Act.put, List.setIfInBounds_toArray, List.set_cons_zero, List.set_cons_succ, i64_w, i32_w]
       rfl
      refine pure_ (i := 24) (N := some 47) (v := undef) (a' := ?_) bqFx59_25 rfl rfl (any_of HT_.out (by kernel_rfl)) (fun _ _ _ h => h) (Or.inr ⟨by rfl, rfl⟩) ?_ ?_
      rotate_left
      ·simp only [Act.put, List.setIfInBounds_toArray, List.set_cons_zero, List.set_cons_succ, i64_w, i32_w]
       rfl
      refine pure_ (i := 25) (N := some 48) (v := undef) (a' := ?_) bqFx59_26 rfl rfl (any_of HT_.out (by kernel_rfl)) (fun _ _ _ h => h) (Or.inr ⟨by rfl, rfl⟩) ?_ ?_
      rotate_left
      ·simp only [Act.put, List.setIfInBounds_toArray, List.set_cons_zero, List.set_cons_succ, i64_w, i32_w]
       rfl
      refine pure_ (i := 26) (N := some 49) (v := undef) (a' := ?_) bqFx59_27 rfl rfl (any_of HT_.out (by kernel_rfl)) (fun _ _ _ h => h) (Or.inr ⟨by rfl, rfl⟩) ?_ ?_
      rotate_left
      ·simp only [Act.put, List.setIfInBounds_toArray, List.set_cons_zero, List.set_cons_succ, i64_w, i32_w]
       rfl
      refine pure_ (i := 27) (N := some 50) (v := undef) (a' := ?_) bqFx59_28 rfl rfl (any_of HT_.out (by kernel_rfl)) (fun _ _ _ h => h) (Or.inr ⟨by rfl, rfl⟩) ?_ ?_
      rotate_left
      ·simp only [Act.put, List.setIfInBounds_toArray, List.set_cons_zero, List.set_cons_succ, i64_w, i32_w]
       rfl
      refine pure_ (i := 28) (N := some 51) (v := undef) (a' := ?_) bqFx59_29 rfl rfl (any_of HT_.out (by kernel_rfl)) (fun _ _ _ h => h) (Or.inr ⟨by rfl, rfl⟩) ?_ ?_
      rotate_left
      ·simp only [Act.put, List.setIfInBounds_toArray, List.set_cons_zero, List.set_cons_succ, i64_w, i32_w]
       rfl
      refine pure_ (i := 29) (N := some 52) (v := ?_) (a' := ?_) bqFx59_30 rfl rfl (any_of HT_.out (by kernel_rfl)) (fun _ _ _ h => h) (Or.inl ⟨by rfl, ?_⟩) ?_ ?_
      rotate_left
      ·intro w'
       go_simp
       with_reducible rfl
      rotate_left
      ·simp only [Act.put, List.setIfInBounds_toArray, List.set_cons_zero, List.set_cons_succ, i64_w, i32_w]
       rfl
      refine done_ (done_of HT_.out (by kernel_rfl)) ?_
      try go_wp2
      go_ret
      exact ⟨by first | rfl | (simp [errW_none, errW_some] <;> rfl) | (simp [*, errW_none, errW_some] <;> rfl), by repeat (first | (with_reducible first | exact HB.out | apply below_alloc | apply pw_below_drewN | apply below_drew1 | refine below_set ?_ GE591001.out | refine below_set ?_ GE591004.out) | exact HB.out)⟩
     subst c17
     have H1 : ((impl_in.f ((rd_T115 l0_1 x18_2).f1) 1 (wrap64 (a0_0 - 1))).bind fun t591006 => (if t591006 = true then (if x18_2 > 0 then (if 0 ≤ (wrap64 (x18_2 - 1)) then (if (wrap64 (x18_2 - 1)) < (l0_1.length : Int) then ((impl_wordOrder.f k2 ((rd_T115 l0_1 (wrap64 (x18_2 - 1))).f0) ((rd_T115 l0_1 x18_2).f0)).bind fun t591008 => (if t591008 ≥ 0 then (some false) else (impl_IsSum.l0 k2 l0_1 (l0_1.length : Int) (wrap64 (x18_2 + 1)) a0_0 l0_1))) else (none)) else (none)) else (impl_IsSum.l0 k2 l0_1 (l0_1.length : Int) (wrap64 (x18_2 + 1)) a0_0 l0_1)) else (some false))) = some r := by rw [if_pos rfl] at H; exact H
     clear H
     have H := H1
     clear H1
     replace H := Option.bind_eq_some_iff.mp H
     obtain ⟨t591006, A180, H⟩ := H
     replace H : (if t591006 = true then (if x18_2 > 0 then (if 0 ≤ (wrap64 (x18_2 - 1)) then (if (wrap64 (x18_2 - 1)) < (l0_1.length : Int) then ((impl_wordOrder.f k2 ((rd_T115 l0_1 (wrap64 (x18_2 - 1))).f0) ((rd_T115 l0_1 x18_2).f0)).bind fun t591008 => (if t591008 ≥ 0 then (some false) else (impl_IsSum.l0 k2 l0_1 (l0_1.length : Int) (wrap64 (x18_2 + 1)) a0_0 l0_1))) else (none)) else (none)) else (impl_IsSum.l0 k2 l0_1 (l0_1.length : Int) (wrap64 (x18_2 + 1)) a0_0 l0_1)) else (some false)) = some r := H
     have A18 := Aside0.mk A180
     clear A180
     by_cases c19 : t591006 = true
     rotate_left
     ·replace c19 := Bool.eq_false_iff.mpr c19
      subst c19
      have H1 : (some false) = some r := by rw [if_neg (show ¬ (false = true) by decide)] at H; exact H
      clear H
      have H := H1
      clear H1
      obtain rfl := Option.some.inj H
      have p591003 : 0 ≤ (x18_2 : Int) := of_decide_eq_true (by first | (with_reducible assumption) | assumption)
      have q591003 : x18_2 < (l0_1.length : Int) := of_decide_eq_true (by first | (with_reducible assumption) | assumption)
      obtain ⟨ad591003, A591003_0, c591003_0, e591003, hx591003_0, hx591003_1, hl591003_0, hi591003_0⟩ := at_T115 HR0_1.out x18_2 p591003 q591003
      cases e591003
      replace hx591003_0 := (HB.out.cell (World.block_lt_of_cell? w _ hx591003_0)).trans hx591003_0
      replace hx591003_1 := (HB.out.cell (World.block_lt_of_cell? w _ hx591003_1)).trans hx591003_1
      have HR591003_0 := Aside0.mk hi591003_0
      have HC591003_0 := Aside0.mk hl591003_0
      clear hi591003_0 hl591003_0
      replace p591003 := eq_true p591003
      replace q591003 := eq_true q591003
      try go_wp2_with (first | ((with_reducible refine gate_dst (N := 4) rfl ?_); (try (refine gate_guard (by rfl) ?_; dsimp only)); refine box_event ?hg (N := 4) ?hd (cs := #[.slice none 0 0, .int .i64 0]) (t := 115) ?hr ?_; (case hd => rfl); (case hg => rfl); (case hr => first | (go_simp; done) | (go_simp; rfl)); intro gb591004 hg w46 hbox hb; have n0_ := Aside0.mk (blk_below (g := gb591001) (o := .cells #[.int .i64 a0_0, .slice (some ad591003) l0_1.length c0_1] 46 (0, 0)) (by (with_reducible repeat (first | refine blk_drewN ?_ _ | refine blk_drew ?_ | refine blk_alloc ?_ _)); exact BK591001.out) hb); have n1_ := Aside0.mk (below_step (by repeat (first | (with_reducible first | exact HB.out | apply below_alloc | apply pw_below_drewN | apply below_drew1 | refine below_set ?_ GE591001.out) | exact HB.out)) hb); have n2_ := Aside0.mk (hbox); have n3_ := Aside0.mk ((by rw [hg]; exact (below_size (by repeat (first | (with_reducible first | exact HB.out | apply below_alloc | apply pw_below_drewN | apply below_drew1 | refine below_set ?_ GE591001.out) | exact HB.out))) : w.heap.size ≤ gb591004)); have n4_ := Aside0.mk ((by rw [hg]; exact (below_size (by repeat (first | (with_reducible first | exact HB.out | apply below_alloc | apply pw_below_drewN | apply below_drew1 | refine below_set ?_ GE591001.out) | exact HB.out))) : w.heap.size ≤ gb591004)); have n5_ := Aside0.mk ((by rw [hg]; exact Nat.ne_of_lt (blk_lt (g := gb591001) (o := .cells #[.int .i64 a0_0, .slice (some ad591003) l0_1.length c0_1] 46 (0, 0)) (by (with_reducible repeat (first | refine blk_drewN ?_ _ | refine blk_drew ?_ | refine blk_alloc ?_ _)); exact BK591001.out)) : gb591001 ≠ gb591004)); have n6_ := Aside0.mk ((by rw [hg]; exact Nat.ne_of_gt (blk_lt (g := gb591001) (o := .cells #[.int .i64 a0_0, .slice (some ad591003) l0_1.length c0_1] 46 (0, 0)) (by (with_reducible repeat (first | refine blk_drewN ?_ _ | refine blk_drew ?_ | refine blk_alloc ?_ _)); exact BK591001.out)) : gb591004 ≠ gb591001)); clear BK591001; clear HB; have BK591001 := n0_; have HB := n1_; have BK591004 := n2_; have GW591004 := n3_; have GE591004 := n4_; have NB591001_591004 := n5_; have NB591004_591001 := n6_; clear n0_ n1_ n2_ n3_ n4_ n5_ n6_; clear hb hbox hg; have hnb47 := NB591004_591001.out; have hnc47 := NB591001_591004.out; have hcz48_0 : w46.cell? ⟨gb591004, 0, none⟩ = some (.slice none 0 0) := (blk_cell BK591004.out 0).trans rfl; have hcz48_1 : w46.cell? ⟨gb591004, 1, none⟩ = some (.int .i64 0) := (blk_cell BK591004.out 1).trans rfl; have hfz48_0 := blk_frozen BK591004.out 0; have hfz48_1 := blk_frozen BK591004.out 1))
      have n0_ : Aside0 (((w46.setCell ⟨gb591004, 0, none⟩ (.slice A591003_0 ((rd_T115 l0_1 x18_2).f0).length c591003_0)).setCell ⟨gb591004, 1, none⟩ (.int .i64 ((rd_T115 l0_1 x18_2).f1))).heap[gb591001]? = some (.cells #[.int .i64 a0_0, .slice (some ad591003) l0_1.length c0_1] 46 (0, 0))) := ⟨by (with_reducible repeat (first | refine blk_drewN ?_ _ | refine blk_drew ?_ | refine blk_alloc ?_ _)); refine blk_far ?_ NB591001_591004.out _; (with_reducible repeat (first | refine blk_drewN ?_ _ | refine blk_drew ?_ | refine blk_alloc ?_ _)); refine blk_far ?_ NB591001_591004.out _; (with_reducible repeat (first | refine blk_drewN ?_ _ | refine blk_drew ?_ | refine blk_alloc ?_ _)); exact BK591001.out⟩
      have n1_ : Aside0 (((w46.setCell ⟨gb591004, 0, none⟩ (.slice A591003_0 ((rd_T115 l0_1 x18_2).f0).length c591003_0)).setCell ⟨gb591004, 1, none⟩ (.int .i64 ((rd_T115 l0_1 x18_2).f1))).heap[gb591004]? = some (.cells #[.slice A591003_0 ((rd_T115 l0_1 x18_2).f0).length c591003_0, .int .i64 ((rd_T115 l0_1 x18_2).f1)] 115 (0, 0))) := ⟨by (with_reducible repeat (first | refine blk_drewN ?_ _ | refine blk_drew ?_ | refine blk_alloc ?_ _)); refine blk_put (cs := #[.slice A591003_0 ((rd_T115 l0_1 x18_2).f0).length c591003_0, .int .i64 0]) ?_ 1 _ rfl; (with_reducible repeat (first | refine blk_drewN ?_ _ | refine blk_drew ?_ | refine blk_alloc ?_ _)); refine blk_put (cs := #[.slice none 0 0, .int .i64 0]) ?_ 0 _ rfl; (with_reducible repeat (first | refine blk_drewN ?_ _ | refine blk_drew ?_ | refine blk_alloc ?_ _)); exact BK591004.out⟩
      have n2_ : Aside0 (Below w.heap.size w ((w46.setCell ⟨gb591004, 0, none⟩ (.slice A591003_0 ((rd_T115 l0_1 x18_2).f0).length c591003_0)).setCell ⟨gb591004, 1, none⟩ (.int .i64 ((rd_T115 l0_1 x18_2).f1)))) := ⟨by repeat (first | (with_reducible first | exact HB.out | apply below_alloc | apply pw_below_drewN | apply below_drew1 | refine below_set ?_ GE591001.out | refine below_set ?_ GE591004.out) | exact HB.out)⟩
      (try clear BK591001)
      (try clear BK591004)
      (try clear HB)
      generalize ((w46.setCell ⟨gb591004, 0, none⟩ (.slice A591003_0 ((rd_T115 l0_1 x18_2).f0).length c591003_0)).setCell ⟨gb591004, 1, none⟩ (.int .i64 ((rd_T115 l0_1 x18_2).f1))) = w49 at n0_ n1_ n2_ ⊢
      have BK591001 := n0_
      have BK591004 := n1_
      have HB := n2_
      clear n0_ n1_ n2_
      have n0_ := Aside0.mk (blk_drew BK591001.out)
      have n1_ := Aside0.mk (blk_drew BK591004.out)
      have n2_ := Aside0.mk (below_drew1 HB.out)
      clear BK591001
      clear BK591004
      clear HB
      have BK591001 := n0_
      have BK591004 := n1_
      have HB := n2_
      clear n0_ n1_ n2_
      refine start_ (n := 30) (S := fun w' => w'.cell? ⟨gb591004, 0, none⟩ = some (.slice A591003_0 ((rd_T115 l0_1 x18_2).f0).length c591003_0) ∧ w'.cell? ⟨gb591004, 1, none⟩ = some (.int .i64 ((rd_T115 l0_1 x18_2).f1)) ∧ w'.cell? ⟨gb591001, 0, none⟩ = some (.int .i64 a0_0) ∧ w'.cell? ⟨gb591001, 1, none⟩ = some (.slice (some ad591003) l0_1.length c0_1)) (ds := []) bqFx59_0 (by kernel_rfl) rfl rfl ⟨(blk_cell BK591004.out 0).trans rfl, (blk_cell BK591004.out 1).trans rfl, (blk_cell BK591001.out 0).trans rfl, (blk_cell BK591001.out 1).trans rfl⟩ (fun hHeld => ?_); refine with_tabW impl_IsSum.tab6 impl_IsSum.bits6 (fun HT_ HW_ => ?_)
      generalize w49.drew = w50 at BK591001 BK591004 HB hHeld ⊢
      refine pure_ (i := 0) (N := some 23) (v := ?_) (a' := ?_) bqFx59_1 rfl rfl (any_of HT_.out (by kernel_rfl)) (fun _ _ _ h => h) (Or.inl ⟨by rfl, ?_⟩) ?_ ?_
      rotate_left
      ·intro w'
       go_simp
       with_reducible rfl
      rotate_left
      ·simp only [Act.put, List.setIfInBounds_toArray, List.set_cons_zero, List.set_cons_succ, i64_w, i32_w]
       rfl
      refine take_ (i := 1) (N := some 24) (v := ?_) (a' := ?_) bqFx59_2 rfl rfl (take_ofW HT_.out HW_.out (by kernel_rfl)) (fun _ _ _ h => h) (Or.inl ⟨by rfl, ?_⟩) hHeld ?_ ?_
      rotate_left
      ·rintro w' ⟨s0, s1, s2, s3⟩
       go_simp
       with_reducible rfl
      rotate_left
      ·simp only [Act.put, List.setIfInBounds_toArray, List.set_cons_zero, List.set_cons_succ, i64_w, i32_w]
       rfl
      refine one_ (i := 2) (N := some 25) bqFx59_3 rfl rfl (one_of HT_.out (by kernel_rfl)) (by decide) (fun K hK => ?_)
      refine goes_ Try.func58 (by kernel_rfl) rfl #[.slice A591003_0 ((rd_T115 l0_1 x18_2).f0).length c591003_0] (by rfl) rfl rfl (by (try simp only [List.map_toArray, List.map_cons, List.map_nil]); first | done | rfl | (simp only [List.length_drop, List.length_take]; rfl)) ?_
      with_reducible refine (impl_IsWord.calls k2 _ _ ((rd_T115 l0_1 x18_2).f0) true _ ?side1 ?side2 A16.out).mono ?_
      (case side1 => repeat (first | exact (Kd.C_below HR591003_0.out HB.out) | (with_reducible refine Kd.C_alloc ?_ _) | (with_reducible refine Kd.C_drewN ?_ _) | (with_reducible refine Kd.C_drew ?_)))
      (case side2 => exact HC591003_0.out)
      rintro e w51 ⟨rfl, hb⟩
      refine ⟨_, rfl, ?_⟩
      have n0_ := Aside0.mk (blk_below (g := gb591001) (o := .cells #[.int .i64 a0_0, .slice (some ad591003) l0_1.length c0_1] 46 (0, 0)) (by (with_reducible repeat (first | refine blk_drewN ?_ _ | refine blk_drew ?_ | refine blk_alloc ?_ _)); exact BK591001.out) hb)
      have n1_ := Aside0.mk (blk_below (g := gb591004) (o := .cells #[.slice A591003_0 ((rd_T115 l0_1 x18_2).f0).length c591003_0, .int .i64 ((rd_T115 l0_1 x18_2).f1)] 115 (0, 0)) (by (with_reducible repeat (first | refine blk_drewN ?_ _ | refine blk_drew ?_ | refine blk_alloc ?_ _)); exact BK591004.out) hb)
      have n2_ := Aside0.mk (below_step (by repeat (first | (with_reducible first | exact HB.out | apply below_alloc | apply pw_below_drewN | apply below_drew1 | refine below_set ?_ GE591001.out | refine below_set ?_ GE591004.out) | exact HB.out)) hb)
      clear BK591001
      clear BK591004
      clear HB
      have BK591001 := n0_
      have BK591004 := n1_
      have HB := n2_
      clear n0_ n1_ n2_
      (try clear hb)
      (try clear hb2)
      (try clear hk)
      (try clear hi)
      refine hK.out _ _ ⟨(blk_cell BK591004.out 0).trans rfl, (blk_cell BK591004.out 1).trans rfl, (blk_cell BK591001.out 0).trans rfl, (blk_cell BK591001.out 1).trans rfl⟩ (fun hHeld => ?_)
      clear hK K
      refine norm_ (a' := ?_) ?_ ?_
      rotate_left
      ·show Act.put _ (some 25) _ = _
       simp only [Act.put, List.setIfInBounds_toArray, List.set_cons_zero, List.set_cons_succ, i64_w, i32_w]
       rfl
      refine pure_ (i := 3) (N := some 26) (v := ?_) (a' := ?_) bqFx59_4 rfl rfl (any_of HT_.out (by kernel_rfl)) (fun _ _ _ h => h) (Or.inl ⟨by rfl, ?_⟩) ?_ ?_
      rotate_left
      ·intro w'
       go_simp
       with_reducible rfl
      rotate_left
      ·simp only [Act.put, List.setIfInBounds_toArray, List.set_cons_zero, List.set_cons_succ, i64_w, i32_w]
       rfl
      refine pure_ (i := 4) (N := some 27) (v := ?_) (a' := ?_) bqFx59_5 rfl rfl (any_of HT_.out (by kernel_rfl)) (fun _ _ _ h => h) (Or.inl ⟨by rfl, ?_⟩) ?_ ?_
      rotate_left
      ·intro w'
       go_simp
       with_reducible rfl
      rotate_left
      ·simp only [Act.put, List.setIfInBounds_toArray, List.set_cons_zero, List.set_cons_succ, i64_w, i32_w]
       rfl
      refine pure_ (i := 5) (N := some 28) (v := ?_) (a' := ?_) bqFx59_6 rfl rfl (any_of HT_.out (by kernel_rfl)) (fun _ _ _ h => h) (Or.inl ⟨by rfl, ?_⟩) ?_ ?_
      rotate_left
      ·intro w'
       go_simp
       with_reducible rfl
      rotate_left
      ·simp only [Act.put, List.setIfInBounds_toArray, List.set_cons_zero, List.set_cons_succ, i64_w, i32_w]
       rfl
      refine pure_ (i := 7) (N := some 30) (v := ?_) (a' := ?_) bqFx59_31 rfl rfl (any_of HT_.out (by kernel_rfl)) (fun _ _ _ h => h) (Or.inl ⟨by rfl, ?_⟩) ?_ ?_
      rotate_left
      ·intro w'
       go_simp
       with_reducible rfl
      rotate_left
      ·simp only [Act.put, List.setIfInBounds_toArray, List.set_cons_zero, List.set_cons_succ, i64_w, i32_w]
       rfl
      refine take_ (i := 6) (N := some 29) (v := ?_) (a' := ?_) bqFx59_8 rfl rfl (take_ofW HT_.out HW_.out (by kernel_rfl)) (fun _ _ _ h => h) (Or.inl ⟨by rfl, ?_⟩) hHeld ?_ ?_
      rotate_left
      ·rintro w' ⟨s0, s1, s2, s3⟩
       go_simp
       with_reducible rfl
      rotate_left
      ·simp only [Act.put, List.setIfInBounds_toArray, List.set_cons_zero, List.set_cons_succ, i64_w, i32_w]
       rfl
      refine take_ (i := 8) (N := some 31) (v := ?_) (a' := ?_) bqFx59_9 rfl rfl (take_ofW HT_.out HW_.out (by kernel_rfl)) (fun _ _ _ h => h) (Or.inl ⟨by rfl, ?_⟩) hHeld ?_ ?_
      rotate_left
      ·rintro w' ⟨s0, s1, s2, s3⟩
       go_simp
       with_reducible rfl
      rotate_left
      ·simp only [Act.put, List.setIfInBounds_toArray, List.set_cons_zero, List.set_cons_succ, i64_w, i32_w]
       rfl
      refine pure_ (i := 9) (N := some 32) (v := ?_) (a' := ?_) bqFx59_10 rfl rfl (any_of HT_.out (by kernel_rfl)) (fun _ _ _ h => h) (Or.inl ⟨by rfl, ?_⟩) ?_ ?_
      rotate_left
      ·intro w'
       go_simp
       with_reducible rfl
      rotate_left
      ·simp only [Act.put, List.setIfInBounds_toArray, List.set_cons_zero, List.set_cons_succ, i64_w, i32_w]
       rfl
      refine one_ (i := 10) (N := some 33) bqFx59_11 rfl rfl (one_of HT_.out (by kernel_rfl)) (by decide) (fun K hK => ?_)
      refine goes_ Try.func66 (by kernel_rfl) rfl #[.int .i64 ((rd_T115 l0_1 x18_2).f1), .int .i64 1, .int .i64 (wrap64 (a0_0 - 1))] (by rfl) rfl rfl (by (try simp only [List.map_toArray, List.map_cons, List.map_nil]); first | done | rfl | (simp only [List.length_drop, List.length_take]; rfl)) ?_
      with_reducible refine (impl_in.calls ((rd_T115 l0_1 x18_2).f1) 1 (wrap64 (a0_0 - 1)) false _ A18.out).mono ?_
      rintro e w' ⟨rfl, ⟨nd, rfl⟩⟩
      refine ⟨_, rfl, ?_⟩
      refine hK.out _ _ ⟨(blk_cell BK591004.out 0).trans rfl, (blk_cell BK591004.out 1).trans rfl, (blk_cell BK591001.out 0).trans rfl, (blk_cell BK591001.out 1).trans rfl⟩ (fun hHeld => ?_)
      clear hK K
      refine norm_ (a' := ?_) ?_ ?_
      rotate_left
      ·show Act.put _ (some 33) _ = _
       simp only [Act.put, List.setIfInBounds_toArray, List.set_cons_zero, List.set_cons_succ, i64_w, i32_w]
       rfl
      refine pure_ (i := 11) (N := some 34) (v := ?_) (a' := ?_) bqFx59_12 rfl rfl (any_of HT_.out (by kernel_rfl)) (fun _ _ _ h => h) (Or.inl ⟨by rfl, ?_⟩) ?_ ?_
      rotate_left
      ·intro w'
       go_simp
       with_reducible rfl
      rotate_left
      ·simp only [Act.put, List.setIfInBounds_toArray, List.set_cons_zero, List.set_cons_succ, i64_w, i32_w]
       rfl
      refine pure_ (i := 12) (N := some 35) (v := ?_) (a' := ?_) bqFx59_13 rfl rfl (any_of HT_.out (by kernel_rfl)) (fun _ _ _ h => h) (Or.inl ⟨by rfl, ?_⟩) ?_ ?_
      rotate_left
      ·intro w'
       go_simp
       with_reducible rfl
      rotate_left
      ·simp only [Act.put, List.setIfInBounds_toArray, List.set_cons_zero, List.set_cons_succ, i64_w, i32_w]
       rfl
      refine pure_ (i := 13) (N := some 36) (v := ?_) (a' := ?_) bqFx59_14 rfl rfl (any_of HT_.out (by kernel_rfl)) (fun _ _ _ h => h) (Or.inl ⟨by rfl, ?_⟩) ?_ ?_
      rotate_left
      ·intro w'
       go_simp
       with_reducible rfl
      rotate_left
      ·simp only [Act.put, List.setIfInBounds_toArray, List.set_cons_zero, List.set_cons_succ, i64_w, i32_w]
       rfl
      refine pure_ (i := 14) (N := some 37) (v := undef) (a' := ?_) bqFx59_15 rfl rfl (any_of HT_.out (by kernel_rfl)) (fun _ _ _ h => h) (Or.inr ⟨by rfl, rfl⟩) ?_ ?_
      rotate_left
      ·simp only [Act.put, List.setIfInBounds_toArray, List.set_cons_zero, List.set_cons_succ, i64_w, i32_w]
       rfl
      refine pure_ (i := 15) (N := some 38) (v := undef) (a' := ?_) bqFx59_16 rfl rfl (any_of HT_.out (by kernel_rfl)) (fun _ _ _ h => h) (Or.inr ⟨by rfl, rfl⟩) ?_ ?_
      rotate_left
      ·simp only [Act.put, List.setIfInBounds_toArray, List.set_cons_zero, List.set_cons_succ, i64_w, i32_w]
       rfl
      refine pure_ (i := 16) (N := some 39) (v := undef) (a' := ?_) bqFx59_17 rfl rfl (any_of HT_.out (by kernel_rfl)) (fun _ _ _ h => h) (Or.inr ⟨by rfl, rfl⟩) ?_ ?_
      rotate_left
      ·simp only [Act.put, List.setIfInBounds_toArray, List.set_cons_zero, List.set_cons_succ, i64_w, i32_w]
       rfl
      refine pure_ (i := 17) (N := some 40) (v := undef) (a' := ?_) bqFx59_18 rfl rfl (any_of HT_.out (by kernel_rfl)) (fun _ _ _ h => h) (Or.inr ⟨by rfl, rfl⟩) ?_ ?_
      rotate_left
      ·simp only [Act.put, List.setIfInBounds_toArray, List.set_cons_zero, List.set_cons_succ, i64_w, i32_w]
       rfl
      refine pure_ (i := 18) (N := some 41) (v := undef) (a' := ?_) bqFx59_19 rfl rfl (any_of HT_.out (by kernel_rfl)) (fun _ _ _ h => h) (Or.inr ⟨by rfl, rfl⟩) ?_ ?_
      rotate_left
      ·simp only [Act.put, List.setIfInBounds_toArray, List.set_cons_zero, List.set_cons_succ, i64_w, i32_w]
       rfl
      refine pure_ (i := 19) (N := some 42) (v := undef) (a' := ?_) bqFx59_20 rfl rfl (any_of HT_.out (by kernel_rfl)) (fun _ _ _ h => h) (Or.inr ⟨by rfl, rfl⟩) ?_ ?_
      rotate_left
      ·simp only [Act.put, List.setIfInBounds_toArray, List.set_cons_zero, List.set_cons_succ, i64_w, i32_w]
       rfl
      refine pure_ (i := 20) (N := some 43) (v := undef) (a' := ?_) bqFx59_21 rfl rfl (any_of HT_.out (by kernel_rfl)) (fun _ _ _ h => h) (Or.inr ⟨by rfl, rfl⟩) ?_ ?_
      rotate_left
      ·simp only [Act.put, List.setIfInBounds_toArray, List.set_cons_zero, List.set_cons_succ, i64_w, i32_w]
       rfl
      refine pure_ (i := 21) (N := some 44) (v := undef) (a' := ?_) bqFx59_22 rfl rfl (any_of HT_.out (by kernel_rfl)) (fun _ _ _ h => h) (Or.inr ⟨by rfl, rfl⟩) ?_ ?_
      rotate_left
      ·simp only [Act.put, List.setIfInBounds_toArray, List.set_cons_zero, List.set_cons_succ, i64_w, i32_w]
       rfl
      refine pure_ (i := 22) (N := some 45) (v := undef) (a' := ?_) bqFx59_23 rfl rfl (any_of HT_.out (by kernel_rfl)) (fun _ _ _ h => h) (Or.inr ⟨by rfl, rfl⟩) ?_ ?_
      rotate_left
      ·simp only [Act.put, List.setIfInBounds_toArray, List.set_cons_zero, List.set_cons_succ, i64_w, i32_w]
       rfl
      refine pure_ (i := 23) (N := some 46) (v := undef) (a' := ?_) bqFx59_24 rfl rfl (any_of HT_.out (by kernel_rfl)) (fun _ _ _ h => h) (Or.inr ⟨by rfl, rfl⟩) ?_ ?_
      rotate_left
      ·simp only [Act.put, List.setIfInBounds_toArray, List.set_cons_zero, List.set_cons_succ, i64_w, i32_w]
       rfl
      refine pure_ (i := 24) (N := some 47) (v := undef) (a' := ?_) bqFx59_25 rfl rfl (any_of HT_.out (by kernel_rfl)) (fun _ _ _ h => h) (Or.inr ⟨by rfl, rfl⟩) ?_ ?_
      rotate_left
      ·simp only [Act.put, List.setIfInBounds_toArray, List.set_cons_zero, List.set_cons_succ, i64_w, i32_w]
       rfl
      refine pure_ (i := 25) (N := some 48) (v := undef) (a' := ?_) bqFx59_26 rfl rfl (any_of HT_.out (by kernel_rfl)) (fun _ _ _ h => h) (Or.inr ⟨by rfl, rfl⟩) ?_ ?_
      rotate_left
      ·simp only [Act.put, List.setIfInBounds_toArray, List.set_cons_zero, List.set_cons_succ, i64_w, i32_w]
       rfl
      refine pure_ (i := 26) (N := some 49) (v := undef) (a' := ?_) bqFx59_27 rfl rfl (any_of HT_.out (by kernel_rfl)) (fun _ _ _ h => h) (Or.inr ⟨by rfl, rfl⟩) ?_ ?_
      rotate_left
      ·simp only [Act.put, List.setIfInBounds_toArray, List.set_cons_zero, List.set_cons_succ, i64_w, i32_w]
       rfl
      refine pure_ (i := 27) (N := some 50) (v := undef) (a' := ?_) bqFx59_28 rfl rfl (any_of HT_.out (by kernel_rfl)) (fun _ _ _ h => h) (Or.inr ⟨by rfl, rfl⟩) ?_ ?_
      rotate_left
      ·simp only [Act.put, List.setIfInBounds_toArray, List.set_cons_zero, List.set_cons_succ, i64_w, i32_w]
       rfl
      refine pure_ (i := 28) (N := some 51) (v := undef) (a' := ?_) bqFx59_29 rfl rfl (any_of HT_.out (by kernel_rfl)) (fun _ _ _ h => h) (Or.inr ⟨by rfl, rfl⟩) ?_ ?_
      rotate_left
      ·simp only [Act.put, List.setIfInBounds_toArray, List.set_cons_zero, List.set_cons_succ, i64_w, i32_w]
       rfl
      refine pure_ (i := 29) (N := some 52) (v := ?_) (a' := ?_) bqFx59_30 rfl rfl (any_of HT_.out (by kernel_rfl)) (fun _ _ _ h => h) (Or.inl ⟨by rfl, ?_⟩) ?_ ?_
      rotate_left
      ·intro w'
       go_simp
       with_reducible rfl
      rotate_left
      ·simp only [Act.put, List.setIfInBounds_toArray, List.set_cons_zero, List.set_cons_succ, i64_w, i32_w]
       rfl
      refine done_ (done_of HT_.out (by kernel_rfl)) ?_
      try go_wp2
      go_ret
      exact ⟨by first | rfl | (simp [errW_none, errW_some] <;> rfl) | (simp [*, errW_none, errW_some] <;> rfl), by repeat (first | (with_reducible first | exact HB.out | apply below_alloc | apply pw_below_drewN | apply below_drew1 | refine below_set ?_ GE591001.out | refine below_set ?_ GE591004.out) | exact HB.out)⟩
     subst c19
     have H1 : (if x18_2 > 0 then (if 0 ≤ (wrap64 (x18_2 - 1)) then (if (wrap64 (x18_2 - 1)) < (l0_1.length : Int) then ((impl_wordOrder.f k2 ((rd_T115 l0_1 (wrap64 (x18_2 - 1))).f0) ((rd_T115 l0_1 x18_2).f0)).bind fun t591008 => (if t591008 ≥ 0 then (some false) else (impl_IsSum.l0 k2 l0_1 (l0_1.length : Int) (wrap64 (x18_2 + 1)) a0_0 l0_1))) else (none)) else (none)) else (impl_IsSum.l0 k2 l0_1 (l0_1.length : Int) (wrap64 (x18_2 + 1)) a0_0 l0_1)) = some r := by rw [if_pos rfl] at H; exact H
     clear H
     have H := H1
     clear H1
     by_cases c20 : x18_2 > 0
     rotate_left
     ·rw [if_neg c20] at H
      have c20b0 : decide (0 < x18_2) = false := decide_eq_false c20
      clear c20
      have H' := Aside0.mk H
      clear H
      have p591003 : 0 ≤ (x18_2 : Int) := of_decide_eq_true (by first | (with_reducible assumption) | assumption)
      have q591003 : x18_2 < (l0_1.length : Int) := of_decide_eq_true (by first | (with_reducible assumption) | assumption)
      obtain ⟨ad591003, A591003_0, c591003_0, e591003, hx591003_0, hx591003_1, hl591003_0, hi591003_0⟩ := at_T115 HR0_1.out x18_2 p591003 q591003
      cases e591003
      replace hx591003_0 := (HB.out.cell (World.block_lt_of_cell? w _ hx591003_0)).trans hx591003_0
      replace hx591003_1 := (HB.out.cell (World.block_lt_of_cell? w _ hx591003_1)).trans hx591003_1
      have HR591003_0 := Aside0.mk hi591003_0
      have HC591003_0 := Aside0.mk hl591003_0
      clear hi591003_0 hl591003_0
      replace p591003 := eq_true p591003
      replace q591003 := eq_true q591003
      try go_wp2_with (first | ((with_reducible refine gate_dst (N := 4) rfl ?_); (try (refine gate_guard (by rfl) ?_; dsimp only)); refine box_event ?hg (N := 4) ?hd (cs := #[.slice none 0 0, .int .i64 0]) (t := 115) ?hr ?_; (case hd => rfl); (case hg => rfl); (case hr => first | (go_simp; done) | (go_simp; rfl)); intro gb591004 hg w40 hbox hb; have n0_ := Aside0.mk (blk_below (g := gb591001) (o := .cells #[.int .i64 a0_0, .slice (some ad591003) l0_1.length c0_1] 46 (0, 0)) (by (with_reducible repeat (first | refine blk_drewN ?_ _ | refine blk_drew ?_ | refine blk_alloc ?_ _)); exact BK591001.out) hb); have n1_ := Aside0.mk (below_step (by repeat (first | (with_reducible first | exact HB.out | apply below_alloc | apply pw_below_drewN | apply below_drew1 | refine below_set ?_ GE591001.out) | exact HB.out)) hb); have n2_ := Aside0.mk (hbox); have n3_ := Aside0.mk ((by rw [hg]; exact (below_size (by repeat (first | (with_reducible first | exact HB.out | apply below_alloc | apply pw_below_drewN | apply below_drew1 | refine below_set ?_ GE591001.out) | exact HB.out))) : w.heap.size ≤ gb591004)); have n4_ := Aside0.mk ((by rw [hg]; exact (below_size (by repeat (first | (with_reducible first | exact HB.out | apply below_alloc | apply pw_below_drewN | apply below_drew1 | refine below_set ?_ GE591001.out) | exact HB.out))) : w.heap.size ≤ gb591004)); have n5_ := Aside0.mk ((by rw [hg]; exact Nat.ne_of_lt (blk_lt (g := gb591001) (o := .cells #[.int .i64 a0_0, .slice (some ad591003) l0_1.length c0_1] 46 (0, 0)) (by (with_reducible repeat (first | refine blk_drewN ?_ _ | refine blk_drew ?_ | refine blk_alloc ?_ _)); exact BK591001.out)) : gb591001 ≠ gb591004)); have n6_ := Aside0.mk ((by rw [hg]; exact Nat.ne_of_gt (blk_lt (g := gb591001) (o := .cells #[.int .i64 a0_0, .slice (some ad591003) l0_1.length c0_1] 46 (0, 0)) (by (with_reducible repeat (first | refine blk_drewN ?_ _ | refine blk_drew ?_ | refine blk_alloc ?_ _)); exact BK591001.out)) : gb591004 ≠ gb591001)); clear BK591001; clear HB; have BK591001 := n0_; have HB := n1_; have BK591004 := n2_; have GW591004 := n3_; have GE591004 := n4_; have NB591001_591004 := n5_; have NB591004_591001 := n6_; clear n0_ n1_ n2_ n3_ n4_ n5_ n6_; clear hb hbox hg; have hnb41 := NB591004_591001.out; have hnc41 := NB591001_591004.out; have hcz42_0 : w40.cell? ⟨gb591004, 0, none⟩ = some (.slice none 0 0) := (blk_cell BK591004.out 0).trans rfl; have hcz42_1 : w40.cell? ⟨gb591004, 1, none⟩ = some (.int .i64 0) := (blk_cell BK591004.out 1).trans rfl; have hfz42_0 := blk_frozen BK591004.out 0; have hfz42_1 := blk_frozen BK591004.out 1))
      have n0_ : Aside0 (((w40.setCell ⟨gb591004, 0, none⟩ (.slice A591003_0 ((rd_T115 l0_1 x18_2).f0).length c591003_0)).setCell ⟨gb591004, 1, none⟩ (.int .i64 ((rd_T115 l0_1 x18_2).f1))).heap[gb591001]? = some (.cells #[.int .i64 a0_0, .slice (some ad591003) l0_1.length c0_1] 46 (0, 0))) := ⟨by (with_reducible repeat (first | refine blk_drewN ?_ _ | refine blk_drew ?_ | refine blk_alloc ?_ _)); refine blk_far ?_ NB591001_591004.out _; (with_reducible repeat (first | refine blk_drewN ?_ _ | refine blk_drew ?_ | refine blk_alloc ?_ _)); refine blk_far ?_ NB591001_591004.out _; (with_reducible repeat (first | refine blk_drewN ?_ _ | refine blk_drew ?_ | refine blk_alloc ?_ _)); exact BK591001.out⟩
      have n1_ : Aside0 (((w40.setCell ⟨gb591004, 0, none⟩ (.slice A591003_0 ((rd_T115 l0_1 x18_2).f0).length c591003_0)).setCell ⟨gb591004, 1, none⟩ (.int .i64 ((rd_T115 l0_1 x18_2).f1))).heap[gb591004]? = some (.cells #[.slice A591003_0 ((rd_T115 l0_1 x18_2).f0).length c591003_0, .int .i64 ((rd_T115 l0_1 x18_2).f1)] 115 (0, 0))) := ⟨by (with_reducible repeat (first | refine blk_drewN ?_ _ | refine blk_drew ?_ | refine blk_alloc ?_ _)); refine blk_put (cs := #[.slice A591003_0 ((rd_T115 l0_1 x18_2).f0).length c591003_0, .int .i64 0]) ?_ 1 _ rfl; (with_reducible repeat (first | refine blk_drewN ?_ _ | refine blk_drew ?_ | refine blk_alloc ?_ _)); refine blk_put (cs := #[.slice none 0 0, .int .i64 0]) ?_ 0 _ rfl; (with_reducible repeat (first | refine blk_drewN ?_ _ | refine blk_drew ?_ | refine blk_alloc ?_ _)); exact BK591004.out⟩
      have n2_ : Aside0 (Below w.heap.size w ((w40.setCell ⟨gb591004, 0, none⟩ (.slice A591003_0 ((rd_T115 l0_1 x18_2).f0).length c591003_0)).setCell ⟨gb591004, 1, none⟩ (.int .i64 ((rd_T115 l0_1 x18_2).f1)))) := ⟨by repeat (first | (with_reducible first | exact HB.out | apply below_alloc | apply pw_below_drewN | apply below_drew1 | refine below_set ?_ GE591001.out | refine below_set ?_ GE591004.out) | exact HB.out)⟩
      (try clear BK591001)
      (try clear BK591004)
      (try clear HB)
      generalize ((w40.setCell ⟨gb591004, 0, none⟩ (.slice A591003_0 ((rd_T115 l0_1 x18_2).f0).length c591003_0)).setCell ⟨gb591004, 1, none⟩ (.int .i64 ((rd_T115 l0_1 x18_2).f1))) = w43 at n0_ n1_ n2_ ⊢
      have BK591001 := n0_
      have BK591004 := n1_
      have HB := n2_
      clear n0_ n1_ n2_
      have n0_ := Aside0.mk (blk_drew BK591001.out)
      have n1_ := Aside0.mk (blk_drew BK591004.out)
      have n2_ := Aside0.mk (below_drew1 HB.out)
      clear BK591001
      clear BK591004
      clear HB
      have BK591001 := n0_
      have BK591004 := n1_
      have HB := n2_
      clear n0_ n1_ n2_
      refine start_ (n := 30) (S := fun w' => w'.cell? ⟨gb591004, 0, none⟩ = some (.slice A591003_0 ((rd_T115 l0_1 x18_2).f0).length c591003_0) ∧ w'.cell? ⟨gb591004, 1, none⟩ = some (.int .i64 ((rd_T115 l0_1 x18_2).f1)) ∧ w'.cell? ⟨gb591001, 0, none⟩ = some (.int .i64 a0_0) ∧ w'.cell? ⟨gb591001, 1, none⟩ = some (.slice (some ad591003) l0_1.length c0_1)) (ds := []) bqFx59_0 (by kernel_rfl) rfl rfl ⟨(blk_cell BK591004.out 0).trans rfl, (blk_cell BK591004.out 1).trans rfl, (blk_cell BK591001.out 0).trans rfl, (blk_cell BK591001.out 1).trans rfl⟩ (fun hHeld => ?_); refine with_tabW impl_IsSum.tab6 impl_IsSum.bits6 (fun HT_ HW_ => ?_)
      generalize w43.drew = w44 at BK591001 BK591004 HB hHeld ⊢
      refine pure_ (i := 0) (N := some 23) (v := ?_) (a' := ?_) bqFx59_1 rfl rfl (any_of HT_.out (by kernel_rfl)) (fun _ _ _ h => h) (Or.inl ⟨by rfl, ?_⟩) ?_ ?_
      rotate_left
      ·intro w'
       go_simp
       with_reducible rfl
      rotate_left
      ·simp only [Act.put, List.setIfInBounds_toArray, List.set_cons_zero, List.set_cons_succ, i64_w, i32_w]
       rfl
      refine take_ (i := 1) (N := some 24) (v := ?_) (a' := ?_) bqFx59_2 rfl rfl (take_ofW HT_.out HW_.out (by kernel_rfl)) (fun _ _ _ h => h) (Or.inl ⟨by rfl, ?_⟩) hHeld ?_ ?_
      rotate_left
      ·rintro w' ⟨s0, s1, s2, s3⟩
       go_simp
       with_reducible rfl
      rotate_left
      ·simp only [Act.put, List.setIfInBounds_toArray, List.set_cons_zero, List.set_cons_succ, i64_w, i32_w]
       rfl
      refine one_ (i := 2) (N := some 25) bqFx59_3 rfl rfl (one_of HT_.out (by kernel_rfl)) (by decide) (fun K hK => ?_)
      refine goes_ Try.func58 (by kernel_rfl) rfl #[.slice A591003_0 ((rd_T115 l0_1 x18_2).f0).length c591003_0] (by rfl) rfl rfl (by (try simp only [List.map_toArray, List.map_cons, List.map_nil]); first | done | rfl | (simp only [List.length_drop, List.length_take]; rfl)) ?_
      with_reducible refine (impl_IsWord.calls k2 _ _ ((rd_T115 l0_1 x18_2).f0) true _ ?side1 ?side2 A16.out).mono ?_
      (case side1 => repeat (first | exact (Kd.C_below HR591003_0.out HB.out) | (with_reducible refine Kd.C_alloc ?_ _) | (with_reducible refine Kd.C_drewN ?_ _) | (with_reducible refine Kd.C_drew ?_)))
      (case side2 => exact HC591003_0.out)
      rintro e w45 ⟨rfl, hb⟩
      refine ⟨_, rfl, ?_⟩
      have n0_ := Aside0.mk (blk_below (g := gb591001) (o := .cells #[.int .i64 a0_0, .slice (some ad591003) l0_1.length c0_1] 46 (0, 0)) (by (with_reducible repeat (first | refine blk_drewN ?_ _ | refine blk_drew ?_ | refine blk_alloc ?_ _)); exact BK591001.out) hb)
      have n1_ := Aside0.mk (blk_below (g := gb591004) (o := .cells #[.slice A591003_0 ((rd_T115 l0_1 x18_2).f0).length c591003_0, .int .i64 ((rd_T115 l0_1 x18_2).f1)] 115 (0, 0)) (by (with_reducible repeat (first | refine blk_drewN ?_ _ | refine blk_drew ?_ | refine blk_alloc ?_ _)); exact BK591004.out) hb)
      have n2_ := Aside0.mk (below_step (by repeat (first | (with_reducible first | exact HB.out | apply below_alloc | apply pw_below_drewN | apply below_drew1 | refine below_set ?_ GE591001.out | refine below_set ?_ GE591004.out) | exact HB.out)) hb)
      clear BK591001
      clear BK591004
      clear HB
      have BK591001 := n0_
      have BK591004 := n1_
      have HB := n2_
      clear n0_ n1_ n2_
      (try clear hb)
      (try clear hb2)
      (try clear hk)
      (try clear hi)
      refine hK.out _ _ ⟨(blk_cell BK591004.out 0).trans rfl, (blk_cell BK591004.out 1).trans rfl, (blk_cell BK591001.out 0).trans rfl, (blk_cell BK591001.out 1).trans rfl⟩ (fun hHeld => ?_)
      clear hK K
      refine norm_ (a' := ?_) ?_ ?_
      rotate_left
      ·show Act.put _ (some 25) _ = _
       simp only [Act.put, List.setIfInBounds_toArray, List.set_cons_zero, List.set_cons_succ, i64_w, i32_w]
       rfl
      refine pure_ (i := 3) (N := some 26) (v := ?_) (a' := ?_) bqFx59_4 rfl rfl (any_of HT_.out (by kernel_rfl)) (fun _ _ _ h => h) (Or.inl ⟨by rfl, ?_⟩) ?_ ?_
      rotate_left
      ·intro w'
       go_simp
       with_reducible rfl
      rotate_left
      ·simp only [Act.put, List.setIfInBounds_toArray, List.set_cons_zero, List.set_cons_succ, i64_w, i32_w]
       rfl
      refine pure_ (i := 4) (N := some 27) (v := ?_) (a' := ?_) bqFx59_5 rfl rfl (any_of HT_.out (by kernel_rfl)) (fun _ _ _ h => h) (Or.inl ⟨by rfl, ?_⟩) ?_ ?_
      rotate_left
      ·intro w'
       go_simp
       with_reducible rfl
      rotate_left
      ·simp only [Act.put, List.setIfInBounds_toArray, List.set_cons_zero, List.set_cons_succ, i64_w, i32_w]
       rfl
      refine pure_ (i := 5) (N := some 28) (v := ?_) (a' := ?_) bqFx59_6 rfl rfl (any_of HT_.out (by kernel_rfl)) (fun _ _ _ h => h) (Or.inl ⟨by rfl, ?_⟩) ?_ ?_
      rotate_left
      ·intro w'
       go_simp
       with_reducible rfl
      rotate_left
      ·simp only [Act.put, List.setIfInBounds_toArray, List.set_cons_zero, List.set_cons_succ, i64_w, i32_w]
       rfl
      refine pure_ (i := 7) (N := some 30) (v := ?_) (a' := ?_) bqFx59_31 rfl rfl (any_of HT_.out (by kernel_rfl)) (fun _ _ _ h => h) (Or.inl ⟨by rfl, ?_⟩) ?_ ?_
      rotate_left
      ·intro w'
       go_simp
       with_reducible rfl
      rotate_left
      ·simp only [Act.put, List.setIfInBounds_toArray, List.set_cons_zero, List.set_cons_succ, i64_w, i32_w]
       rfl
      refine take_ (i := 6) (N := some 29) (v := ?_) (a' := ?_) bqFx59_8 rfl rfl (take_ofW HT_.out HW_.out (by kernel_rfl)) (fun _ _ _ h => h) (Or.inl ⟨by rfl, ?_⟩) hHeld ?_ ?_
      rotate_left
      ·rintro w' ⟨s0, s1, s2, s3⟩
       go_simp
       with_reducible rfl
      rotate_left
      ·simp only [Act.put, List.setIfInBounds_toArray, List.set_cons_zero, List.set_cons_succ, i64_w, i32_w]
       rfl
      refine take_ (i := 8) (N := some 31) (v := ?_) (a' := ?_) bqFx59_9 rfl rfl (take_ofW HT_.out HW_.out (by kernel_rfl)) (fun _ _ _ h => h) (Or.inl ⟨by rfl, ?_⟩) hHeld ?_ ?_
      rotate_left
      ·rintro w' ⟨s0, s1, s2, s3⟩
       go_simp
       with_reducible rfl
      rotate_left
      ·simp only [Act.put, List.setIfInBounds_toArray, List.set_cons_zero, List.set_cons_succ, i64_w, i32_w]
       rfl
      refine pure_ (i := 9) (N := some 32) (v := ?_) (a' := ?_) bqFx59_10 rfl rfl (any_of HT_.out (by kernel_rfl)) (fun _ _ _ h => h) (Or.inl ⟨by rfl, ?_⟩) ?_ ?_
      rotate_left
      ·intro w'
       go_simp
       with_reducible rfl
      rotate_left
      ·simp only [Act.put, List.setIfInBounds_toArray, List.set_cons_zero, List.set_cons_succ, i64_w, i32_w]
       rfl
      refine one_ (i := 10) (N := some 33) bqFx59_11 rfl rfl (one_of HT_.out (by kernel_rfl)) (by decide) (fun K hK => ?_)
      refine goes_ Try.func66 (by kernel_rfl) rfl #[.int .i64 ((rd_T115 l0_1 x18_2).f1), .int .i64 1, .int .i64 (wrap64 (a0_0 - 1))] (by rfl) rfl rfl (by (try simp only [List.map_toArray, List.map_cons, List.map_nil]); first | done | rfl | (simp only [List.length_drop, List.length_take]; rfl)) ?_
      with_reducible refine (impl_in.calls ((rd_T115 l0_1 x18_2).f1) 1 (wrap64 (a0_0 - 1)) true _ A18.out).mono ?_
      rintro e w' ⟨rfl, ⟨nd, rfl⟩⟩
      refine ⟨_, rfl, ?_⟩
      refine hK.out _ _ ⟨(blk_cell BK591004.out 0).trans rfl, (blk_cell BK591004.out 1).trans rfl, (blk_cell BK591001.out 0).trans rfl, (blk_cell BK591001.out 1).trans rfl⟩ (fun hHeld => ?_)
      clear hK K
      refine norm_ (a' := ?_) ?_ ?_
      rotate_left
      ·show Act.put _ (some 33) _ = _
       simp only [Act.put, List.setIfInBounds_toArray, List.set_cons_zero, List.set_cons_succ, i64_w, i32_w]
       rfl
      refine pure_ (i := 11) (N := some 34) (v := ?_) (a' := ?_) bqFx59_12 rfl rfl (any_of HT_.out (by kernel_rfl)) (fun _ _ _ h => h) (Or.inl ⟨by rfl, ?_⟩) ?_ ?_
      rotate_left
      ·intro w'
       go_simp
       with_reducible rfl
      rotate_left
      ·simp only [Act.put, List.setIfInBounds_toArray, List.set_cons_zero, List.set_cons_succ, i64_w, i32_w]
       rfl
      refine pure_ (i := 12) (N := some 35) (v := ?_) (a' := ?_) bqFx59_13 rfl rfl (any_of HT_.out (by kernel_rfl)) (fun _ _ _ h => h) (Or.inl ⟨by rfl, ?_⟩) ?_ ?_
      rotate_left
      ·intro w'
       go_simp
       with_reducible rfl
      rotate_left
      ·simp only [Act.put, List.setIfInBounds_toArray, List.set_cons_zero, List.set_cons_succ, i64_w, i32_w]
       rfl
      refine pure_ (i := 13) (N := some 36) (v := ?_) (a' := ?_) bqFx59_14 rfl rfl (any_of HT_.out (by kernel_rfl)) (fun _ _ _ h => h) (Or.inl ⟨by rfl, ?_⟩) ?_ ?_
      rotate_left
      ·intro w'
       go_simp
       with_reducible rfl
      rotate_left
      ·simp only [Act.put, List.setIfInBounds_toArray, List.set_cons_zero, List.set_cons_succ, i64_w, i32_w]
       rfl
      refine pure_ (i := 14) (N := some 37) (v := ?_) (a' := ?_) bqFx59_15 rfl rfl (any_of HT_.out (by kernel_rfl)) (fun _ _ _ h => h) (Or.inl ⟨by rfl, ?_⟩) ?_ ?_
      rotate_left
      ·intro w'
       go_simp
       with_reducible rfl
      rotate_left
      ·simp only [Act.put, List.setIfInBounds_toArray, List.set_cons_zero, List.set_cons_succ, i64_w, i32_w]
       rfl
      refine pure_ (i := 15) (N := some 38) (v := ?_) (a' := ?_) bqFx59_16 rfl rfl (any_of HT_.out (by kernel_rfl)) (fun _ _ _ h => h) (Or.inl ⟨by rfl, ?_⟩) ?_ ?_
      rotate_left
      ·intro w'
       go_simp
       with_reducible rfl
      rotate_left
      ·simp only [Act.put, List.setIfInBounds_toArray, List.set_cons_zero, List.set_cons_succ, i64_w, i32_w]
       rfl
      refine pure_ (i := 16) (N := some 39) (v := ?_) (a' := ?_) bqFx59_17 rfl rfl (any_of HT_.out (by kernel_rfl)) (fun _ _ _ h => h) (Or.inl ⟨by rfl, ?_⟩) ?_ ?_
      rotate_left
      ·intro w'
       go_simp
       with_reducible rfl
      rotate_left
      ·simp only [Act.put, List.setIfInBounds_toArray, List.set_cons_zero, List.set_cons_succ, i64_w, i32_w]
       rfl
      refine pure_ (i := 17) (N := some 40) (v := undef) (a' := ?_) bqFx59_18 rfl rfl (any_of HT_.out (by kernel_rfl)) (fun _ _ _ h => h) (Or.inr ⟨by rfl, rfl⟩) ?_ ?_
      rotate_left
      ·simp only [Act.put, List.setIfInBounds_toArray, List.set_cons_zero, List.set_cons_succ, i64_w, i32_w]
       rfl
      refine pure_ (i := 18) (N := some 41) (v := undef) (a' := ?_) bqFx59_19 rfl rfl (any_of HT_.out (by kernel_rfl)) (fun _ _ _ h => h) (Or.inr ⟨by rfl, rfl⟩) ?_ ?_
      rotate_left
      ·simp only [Act.put, List.setIfInBounds_toArray, List.set_cons_zero, List.set_cons_succ, i64_w, i32_w]
       rfl
      refine pure_ (i := 19) (N := some 42) (v := undef) (a' := ?_) bqFx59_20 rfl rfl (any_of HT_.out (by kernel_rfl)) (fun _ _ _ h => h) (Or.inr ⟨by rfl, rfl⟩) ?_ ?_
      rotate_left
      ·simp only [Act.put, List.setIfInBounds_toArray, List.set_cons_zero, List.set_cons_succ, i64_w, i32_w]
       rfl
      refine pure_ (i := 20) (N := some 43) (v := undef) (a' := ?_) bqFx59_21 rfl rfl (any_of HT_.out (by kernel_rfl)) (fun _ _ _ h => h) (Or.inr ⟨by rfl, rfl⟩) ?_ ?_
      rotate_left
      ·simp only [Act.put, List.setIfInBounds_toArray, List.set_cons_zero, List.set_cons_succ, i64_w, i32_w]
       rfl
      refine pure_ (i := 21) (N := some 44) (v := undef) (a' := ?_) bqFx59_22 rfl rfl (any_of HT_.out (by kernel_rfl)) (fun _ _ _ h => h) (Or.inr ⟨by rfl, rfl⟩) ?_ ?_
      rotate_left
      ·simp only [Act.put, List.setIfInBounds_toArray, List.set_cons_zero, List.set_cons_succ, i64_w, i32_w]
       rfl
      refine pure_ (i := 22) (N := some 45) (v := undef) (a' := ?_) bqFx59_23 rfl rfl (any_of HT_.out (by kernel_rfl)) (fun _ _ _ h => h) (Or.inr ⟨by rfl, rfl⟩) ?_ ?_
      rotate_left
      ·simp only [Act.put, List.setIfInBounds_toArray, List.set_cons_zero, List.set_cons_succ, i64_w, i32_w]
       rfl
      refine pure_ (i := 23) (N := some 46) (v := undef) (a' := ?_) bqFx59_24 rfl rfl (any_of HT_.out (by kernel_rfl)) (fun _ _ _ h => h) (Or.inr ⟨by rfl, rfl⟩) ?_ ?_
      rotate_left
      ·simp only [Act.put, List.setIfInBounds_toArray, List.set_cons_zero, List.set_cons_succ, i64_w, i32_w]
       rfl
      refine pure_ (i := 24) (N := some 47) (v := undef) (a' := ?_) bqFx59_25 rfl rfl (any_of HT_.out (by kernel_rfl)) (fun _ _ _ h => h) (Or.inr ⟨by rfl, rfl⟩) ?_ ?_
      rotate_left
      ·simp only [Act.put, List.setIfInBounds_toArray, List.set_cons_zero, List.set_cons_succ, i64_w, i32_w]
       rfl
      refine pure_ (i := 25) (N := some 48) (v := undef) (a' := ?_) bqFx59_26 rfl rfl (any_of HT_.out (by kernel_rfl)) (fun _ _ _ h => h) (Or.inr ⟨by rfl, rfl⟩) ?_ ?_
      rotate_left
      ·simp only [Act.put, List.setIfInBounds_toArray, List.set_cons_zero, List.set_cons_succ, i64_w, i32_w]
       rfl
      refine pure_ (i := 26) (N := some 49) (v := undef) (a' := ?_) bqFx59_27 rfl rfl (any_of HT_.out (by kernel_rfl)) (fun _ _ _ h => h) (Or.inr ⟨by rfl, rfl⟩) ?_ ?_
      rotate_left
      ·simp only [Act.put, List.setIfInBounds_toArray, List.set_cons_zero, List.set_cons_succ, i64_w, i32_w]
       rfl
      refine pure_ (i := 27) (N := some 50) (v := undef) (a' := ?_) bqFx59_28 rfl rfl (any_of HT_.out (by kernel_rfl)) (fun _ _ _ h => h) (Or.inr ⟨by rfl, rfl⟩) ?_ ?_
      rotate_left
      ·simp only [Act.put, List.setIfInBounds_toArray, List.set_cons_zero, List.set_cons_succ, i64_w, i32_w]
       rfl
      refine pure_ (i := 28) (N := some 51) (v := ?_) (a' := ?_) bqFx59_29 rfl rfl (any_of HT_.out (by kernel_rfl)) (fun _ _ _ h => h) (Or.inl ⟨by rfl, ?_⟩) ?_ ?_
      rotate_left
      ·intro w'
       go_simp
       with_reducible rfl
      rotate_left
      ·simp only [Act.put, List.setIfInBounds_toArray, List.set_cons_zero, List.set_cons_succ, i64_w, i32_w]
       rfl
      refine pure_ (i := 29) (N := some 52) (v := ?_) (a' := ?_) bqFx59_30 rfl rfl (any_of HT_.out (by kernel_rfl)) (fun _ _ _ h => h) (Or.inl ⟨by rfl, ?_⟩) ?_ ?_
      rotate_left
      ·intro w'
       go_simp
       with_reducible rfl
      rotate_left
      ·simp only [Act.put, List.setIfInBounds_toArray, List.set_cons_zero, List.set_cons_succ, i64_w, i32_w]
       rfl
      refine done_ (done_of HT_.out (by kernel_rfl)) ?_
      try go_wp2
      go_roundg k2
      case measure => have := HJ1.out; have := HK2.out; omega
      case rel => exact ⟨(wrap64 (x18_2 + 1)), (by first | rfl | (simp; done) | (simp [*]; done)), H', ⟨by have := HJ1.out; have := HK2.out; omega⟩, ⟨by (with_reducible repeat (first | refine blk_drewN ?_ _ | refine blk_drew ?_ | refine blk_alloc ?_ _)); exact BK591001.out⟩, ⟨by repeat (first | (with_reducible first | exact HB.out | apply below_alloc | apply pw_below_drewN | apply below_drew1 | refine below_set ?_ GE591001.out | refine below_set ?_ GE591004.out) | exact HB.out)⟩⟩
     rw [if_pos c20] at H
     have c20b0 : decide (0 < x18_2) = true := decide_eq_true c20
     clear c20
     obtain ⟨ji21, hji21⟩ : ∃ j_ : Int, (wrap64 (x18_2 - 1)) = j_ := ⟨_, rfl⟩
     replace H : (if 0 ≤ (ji21) then (if (ji21) < (l0_1.length : Int) then ((impl_wordOrder.f k2 ((rd_T115 l0_1 (ji21)).f0) ((rd_T115 l0_1 x18_2).f0)).bind fun t591008 => (if t591008 ≥ 0 then (some false) else (impl_IsSum.l0 k2 l0_1 (l0_1.length : Int) (wrap64 (x18_2 + 1)) a0_0 l0_1))) else (none)) else (none)) = some r := by first | (rw [hji21] at H; exact H) | (simp only [hji21] at H ⊢; exact H)
     (try rw [hji21] at A16)
     (try rw [hji21] at A18)
     have hji21w : (IntKind.i64.wrap (x18_2 - 1)) = ji21 := (i64_w _).trans hji21
     by_cases c22 : 0 ≤ (ji21)
     rotate_left
     ·rw [if_neg c22] at H
      exact absurd H (by simp)
     rw [if_pos c22] at H
     have c22b0 : decide (0 ≤ (ji21)) = true := decide_eq_true c22
     clear c22
     by_cases c23 : (ji21) < (l0_1.length : Int)
     rotate_left
     ·rw [if_neg c23] at H
      exact absurd H (by simp)
     rw [if_pos c23] at H
     have c23b0 : decide ((ji21) < (l0_1.length : Int)) = true := decide_eq_true c23
     clear c23
     replace H := Option.bind_eq_some_iff.mp H
     obtain ⟨t591008, A240, H⟩ := H
     replace H : (if t591008 ≥ 0 then (some false) else (impl_IsSum.l0 k2 l0_1 (l0_1.length : Int) (wrap64 (x18_2 + 1)) a0_0 l0_1)) = some r := H
     have A24 := Aside0.mk A240
     clear A240
     by_cases c25 : t591008 ≥ 0
     ·rw [if_pos c25] at H
      have c25b0 : decide (0 ≤ t591008) = true := decide_eq_true c25
      clear c25
      obtain rfl := Option.some.inj H
      have p591003 : 0 ≤ (x18_2 : Int) := of_decide_eq_true (by first | (with_reducible assumption) | assumption)
      have q591003 : x18_2 < (l0_1.length : Int) := of_decide_eq_true (by first | (with_reducible assumption) | assumption)
      obtain ⟨ad591003, A591003_0, c591003_0, e591003, hx591003_0, hx591003_1, hl591003_0, hi591003_0⟩ := at_T115 HR0_1.out x18_2 p591003 q591003
      cases e591003
      replace hx591003_0 := (HB.out.cell (World.block_lt_of_cell? w _ hx591003_0)).trans hx591003_0
      replace hx591003_1 := (HB.out.cell (World.block_lt_of_cell? w _ hx591003_1)).trans hx591003_1
      have HR591003_0 := Aside0.mk hi591003_0
      have HC591003_0 := Aside0.mk hl591003_0
      clear hi591003_0 hl591003_0
      replace p591003 := eq_true p591003
      replace q591003 := eq_true q591003
      try go_wp2_with (first | ((with_reducible refine gate_dst (N := 4) rfl ?_); (try (refine gate_guard (by rfl) ?_; dsimp only)); refine box_event ?hg (N := 4) ?hd (cs := #[.slice none 0 0, .int .i64 0]) (t := 115) ?hr ?_; (case hd => rfl); (case hg => rfl); (case hr => first | (go_simp; done) | (go_simp; rfl)); intro gb591004 hg w26 hbox hb; have n0_ := Aside0.mk (blk_below (g := gb591001) (o := .cells #[.int .i64 a0_0, .slice (some ad591003) l0_1.length c0_1] 46 (0, 0)) (by (with_reducible repeat (first | refine blk_drewN ?_ _ | refine blk_drew ?_ | refine blk_alloc ?_ _)); exact BK591001.out) hb); have n1_ := Aside0.mk (below_step (by repeat (first | (with_reducible first | exact HB.out | apply below_alloc | apply pw_below_drewN | apply below_drew1 | refine below_set ?_ GE591001.out) | exact HB.out)) hb); have n2_ := Aside0.mk (hbox); have n3_ := Aside0.mk ((by rw [hg]; exact (below_size (by repeat (first | (with_reducible first | exact HB.out | apply below_alloc | apply pw_below_drewN | apply below_drew1 | refine below_set ?_ GE591001.out) | exact HB.out))) : w.heap.size ≤ gb591004)); have n4_ := Aside0.mk ((by rw [hg]; exact (below_size (by repeat (first | (with_reducible first | exact HB.out | apply below_alloc | apply pw_below_drewN | apply below_drew1 | refine below_set ?_ GE591001.out) | exact HB.out))) : w.heap.size ≤ gb591004)); have n5_ := Aside0.mk ((by rw [hg]; exact Nat.ne_of_lt (blk_lt (g := gb591001) (o := .cells #[.int .i64 a0_0, .slice (some ad591003) l0_1.length c0_1] 46 (0, 0)) (by (with_reducible repeat (first | refine blk_drewN ?_ _ | refine blk_drew ?_ | refine blk_alloc ?_ _)); exact BK591001.out)) : gb591001 ≠ gb591004)); have n6_ := Aside0.mk ((by rw [hg]; exact Nat.ne_of_gt (blk_lt (g := gb591001) (o := .cells #[.int .i64 a0_0, .slice (some ad591003) l0_1.length c0_1] 46 (0, 0)) (by (with_reducible repeat (first | refine blk_drewN ?_ _ | refine blk_drew ?_ | refine blk_alloc ?_ _)); exact BK591001.out)) : gb591004 ≠ gb591001)); clear BK591001; clear HB; have BK591001 := n0_; have HB := n1_; have BK591004 := n2_; have GW591004 := n3_; have GE591004 := n4_; have NB591001_591004 := n5_; have NB591004_591001 := n6_; clear n0_ n1_ n2_ n3_ n4_ n5_ n6_; clear hb hbox hg; have hnb27 := NB591004_591001.out; have hnc27 := NB591001_591004.out; have hcz28_0 : w26.cell? ⟨gb591004, 0, none⟩ = some (.slice none 0 0) := (blk_cell BK591004.out 0).trans rfl; have hcz28_1 : w26.cell? ⟨gb591004, 1, none⟩ = some (.int .i64 0) := (blk_cell BK591004.out 1).trans rfl; have hfz28_0 := blk_frozen BK591004.out 0; have hfz28_1 := blk_frozen BK591004.out 1))
      have n0_ : Aside0 (((w26.setCell ⟨gb591004, 0, none⟩ (.slice A591003_0 ((rd_T115 l0_1 x18_2).f0).length c591003_0)).setCell ⟨gb591004, 1, none⟩ (.int .i64 ((rd_T115 l0_1 x18_2).f1))).heap[gb591001]? = some (.cells #[.int .i64 a0_0, .slice (some ad591003) l0_1.length c0_1] 46 (0, 0))) := ⟨by (with_reducible repeat (first | refine blk_drewN ?_ _ | refine blk_drew ?_ | refine blk_alloc ?_ _)); refine blk_far ?_ NB591001_591004.out _; (with_reducible repeat (first | refine blk_drewN ?_ _ | refine blk_drew ?_ | refine blk_alloc ?_ _)); refine blk_far ?_ NB591001_591004.out _; (with_reducible repeat (first | refine blk_drewN ?_ _ | refine blk_drew ?_ | refine blk_alloc ?_ _)); exact BK591001.out⟩
      have n1_ : Aside0 (((w26.setCell ⟨gb591004, 0, none⟩ (.slice A591003_0 ((rd_T115 l0_1 x18_2).f0).length c591003_0)).setCell ⟨gb591004, 1, none⟩ (.int .i64 ((rd_T115 l0_1 x18_2).f1))).heap[gb591004]? = some (.cells #[.slice A591003_0 ((rd_T115 l0_1 x18_2).f0).length c591003_0, .int .i64 ((rd_T115 l0_1 x18_2).f1)] 115 (0, 0))) := ⟨by (with_reducible repeat (first | refine blk_drewN ?_ _ | refine blk_drew ?_ | refine blk_alloc ?_ _)); refine blk_put (cs := #[.slice A591003_0 ((rd_T115 l0_1 x18_2).f0).length c591003_0, .int .i64 0]) ?_ 1 _ rfl; (with_reducible repeat (first | refine blk_drewN ?_ _ | refine blk_drew ?_ | refine blk_alloc ?_ _)); refine blk_put (cs := #[.slice none 0 0, .int .i64 0]) ?_ 0 _ rfl; (with_reducible repeat (first | refine blk_drewN ?_ _ | refine blk_drew ?_ | refine blk_alloc ?_ _)); exact BK591004.out⟩
      have n2_ : Aside0 (Below w.heap.size w ((w26.setCell ⟨gb591004, 0, none⟩ (.slice A591003_0 ((rd_T115 l0_1 x18_2).f0).length c591003_0)).setCell ⟨gb591004, 1, none⟩ (.int .i64 ((rd_T115 l0_1 x18_2).f1)))) := ⟨by repeat (first | (with_reducible first | exact HB.out | apply below_alloc | apply pw_below_drewN | apply below_drew1 | refine below_set ?_ GE591001.out | refine below_set ?_ GE591004.out) | exact HB.out)⟩
      (try clear BK591001)
      (try clear BK591004)
      (try clear HB)
      generalize ((w26.setCell ⟨gb591004, 0, none⟩ (.slice A591003_0 ((rd_T115 l0_1 x18_2).f0).length c591003_0)).setCell ⟨gb591004, 1, none⟩ (.int .i64 ((rd_T115 l0_1 x18_2).f1))) = w29 at n0_ n1_ n2_ ⊢
      have BK591001 := n0_
      have BK591004 := n1_
      have HB := n2_
      clear n0_ n1_ n2_
      have n0_ := Aside0.mk (blk_drew BK591001.out)
      have n1_ := Aside0.mk (blk_drew BK591004.out)
      have n2_ := Aside0.mk (below_drew1 HB.out)
      clear BK591001
      clear BK591004
      clear HB
      have BK591001 := n0_
      have BK591004 := n1_
      have HB := n2_
      clear n0_ n1_ n2_
      have p591007 : 0 ≤ ((ji21) : Int) := of_decide_eq_true (by first | (with_reducible assumption) | assumption)
      have q591007 : (ji21) < (l0_1.length : Int) := of_decide_eq_true (by first | (with_reducible assumption) | assumption)
      obtain ⟨ad591007, A591007_0, c591007_0, e591007, hx591007_0, hx591007_1, hl591007_0, hi591007_0⟩ := at_T115 HR0_1.out (ji21) p591007 q591007
      have hw591007_1 := hx591007_1
      have hw591007_0 := hx591007_0
      obtain rfl : ad591003 = ad591007 := (by injection e591007)
      replace hx591007_0 := (HB.out.cell (World.block_lt_of_cell? w _ hx591007_0)).trans hx591007_0
      replace hx591007_1 := (HB.out.cell (World.block_lt_of_cell? w _ hx591007_1)).trans hx591007_1
      have HR591007_0 := Aside0.mk hi591007_0
      have HC591007_0 := Aside0.mk hl591007_0
      clear hi591007_0 hl591007_0
      replace p591007 := eq_true p591007
      replace q591007 := eq_true q591007
      refine start_ (n := 30) (S := fun w' => w'.cell? ⟨gb591004, 0, none⟩ = some (.slice A591003_0 ((rd_T115 l0_1 x18_2).f0).length c591003_0) ∧ w'.cell? ⟨gb591004, 1, none⟩ = some (.int .i64 ((rd_T115 l0_1 x18_2).f1)) ∧ w'.cell? ⟨gb591001, 0, none⟩ = some (.int .i64 a0_0) ∧ w'.cell? ⟨gb591001, 1, none⟩ = some (.slice (some ad591003) l0_1.length c0_1) ∧ w'.cell? (ad591003.add (((ji21)).toNat * 2)) = some (.slice A591007_0 ((rd_T115 l0_1 (ji21)).f0).length c591007_0) ∧ w'.cell? ⟨(ad591003.add (((ji21)).toNat * 2)).block, (ad591003.add (((ji21)).toNat * 2)).off + 1, none⟩ = some (.int .i64 ((rd_T115 l0_1 (ji21)).f1))) (ds := []) bqFx59_0 (by kernel_rfl) rfl rfl ⟨(blk_cell BK591004.out 0).trans rfl, (blk_cell BK591004.out 1).trans rfl, (blk_cell BK591001.out 0).trans rfl, (blk_cell BK591001.out 1).trans rfl, ((HB.out.cell (World.block_lt_of_cell? w _ hw591007_0)).trans hw591007_0), ((HB.out.cell (World.block_lt_of_cell? w _ hw591007_1)).trans hw591007_1)⟩ (fun hHeld => ?_); refine with_tabW impl_IsSum.tab6 impl_IsSum.bits6 (fun HT_ HW_ => ?_)
      generalize w29.drew = w30 at BK591001 BK591004 HB HR591007_0 hx591007_0 hx591007_1 hHeld ⊢
      refine pure_ (i := 0) (N := some 23) (v := ?_) (a' := ?_) bqFx59_1 rfl rfl (any_of HT_.out (by kernel_rfl)) (fun _ _ _ h => h) (Or.inl ⟨by rfl, ?_⟩) ?_ ?_
      rotate_left
      ·intro w'
       go_simp
       with_reducible rfl
      rotate_left
      ·simp only [Act.put, List.setIfInBounds_toArray, List.set_cons_zero, List.set_cons_succ, i64_w, i32_w]
       rfl
      refine take_ (i := 1) (N := some 24) (v := ?_) (a' := ?_) bqFx59_2 rfl rfl (take_ofW HT_.out HW_.out (by kernel_rfl)) (fun _ _ _ h => h) (Or.inl ⟨by rfl, ?_⟩) hHeld ?_ ?_
      rotate_left
      ·rintro w' ⟨s0, s1, s2, s3, s4, s5⟩
       go_simp
       with_reducible rfl
      rotate_left
      ·simp only [Act.put, List.setIfInBounds_toArray, List.set_cons_zero, List.set_cons_succ, i64_w, i32_w]
       rfl
      refine one_ (i := 2) (N := some 25) bqFx59_3 rfl rfl (one_of HT_.out (by kernel_rfl)) (by decide) (fun K hK => ?_)
      refine goes_ Try.func58 (by kernel_rfl) rfl #[.slice A591003_0 ((rd_T115 l0_1 x18_2).f0).length c591003_0] (by rfl) rfl rfl (by (try simp only [List.map_toArray, List.map_cons, List.map_nil]); first | done | rfl | (simp only [List.length_drop, List.length_take]; rfl)) ?_
      with_reducible refine (impl_IsWord.calls k2 _ _ ((rd_T115 l0_1 x18_2).f0) true _ ?side1 ?side2 A16.out).mono ?_
      (case side1 => repeat (first | exact (Kd.C_below HR591003_0.out HB.out) | (with_reducible refine Kd.C_alloc ?_ _) | (with_reducible refine Kd.C_drewN ?_ _) | (with_reducible refine Kd.C_drew ?_)))
      (case side2 => exact HC591003_0.out)
      rintro e w31 ⟨rfl, hb⟩
      refine ⟨_, rfl, ?_⟩
      have n0_ := Aside0.mk (blk_below (g := gb591001) (o := .cells #[.int .i64 a0_0, .slice (some ad591003) l0_1.length c0_1] 46 (0, 0)) (by (with_reducible repeat (first | refine blk_drewN ?_ _ | refine blk_drew ?_ | refine blk_alloc ?_ _)); exact BK591001.out) hb)
      have n1_ := Aside0.mk (blk_below (g := gb591004) (o := .cells #[.slice A591003_0 ((rd_T115 l0_1 x18_2).f0).length c591003_0, .int .i64 ((rd_T115 l0_1 x18_2).f1)] 115 (0, 0)) (by (with_reducible repeat (first | refine blk_drewN ?_ _ | refine blk_drew ?_ | refine blk_alloc ?_ _)); exact BK591004.out) hb)
      have n2_ := Aside0.mk (below_step (by repeat (first | (with_reducible first | exact HB.out | apply below_alloc | apply pw_below_drewN | apply below_drew1 | refine below_set ?_ GE591001.out | refine below_set ?_ GE591004.out) | exact HB.out)) hb)
      clear BK591001
      clear BK591004
      clear HB
      have BK591001 := n0_
      have BK591004 := n1_
      have HB := n2_
      clear n0_ n1_ n2_
      (try clear hb)
      (try clear hb2)
      (try clear hk)
      (try clear hi)
      refine hK.out _ _ ⟨(blk_cell BK591004.out 0).trans rfl, (blk_cell BK591004.out 1).trans rfl, (blk_cell BK591001.out 0).trans rfl, (blk_cell BK591001.out 1).trans rfl, ((HB.out.cell (World.block_lt_of_cell? w _ hw591007_0)).trans hw591007_0), ((HB.out.cell (World.block_lt_of_cell? w _ hw591007_1)).trans hw591007_1)⟩ (fun hHeld => ?_)
      clear hK K
      refine norm_ (a' := ?_) ?_ ?_
      rotate_left
      ·show Act.put _ (some 25) _ = _
       simp only [Act.put, List.setIfInBounds_toArray, List.set_cons_zero, List.set_cons_succ, i64_w, i32_w]
       rfl
      refine pure_ (i := 3) (N := some 26) (v := ?_) (a' := ?_) bqFx59_4 rfl rfl (any_of HT_.out (by kernel_rfl)) (fun _ _ _ h => h) (Or.inl ⟨by rfl, ?_⟩) ?_ ?_
      rotate_left
      ·intro w'
       go_simp
       with_reducible rfl
      rotate_left
      ·simp only [Act.put, List.setIfInBounds_toArray, List.set_cons_zero, List.set_cons_succ, i64_w, i32_w]
       rfl
      refine pure_ (i := 4) (N := some 27) (v := ?_) (a' := ?_) bqFx59_5 rfl rfl (any_of HT_.out (by kernel_rfl)) (fun _ _ _ h => h) (Or.inl ⟨by rfl, ?_⟩) ?_ ?_
      rotate_left
      ·intro w'
       go_simp
       with_reducible rfl
      rotate_left
      ·simp only [Act.put, List.setIfInBounds_toArray, List.set_cons_zero, List.set_cons_succ, i64_w, i32_w]
       rfl
      refine pure_ (i := 5) (N := some 28) (v := ?_) (a' := ?_) bqFx59_6 rfl rfl (any_of HT_.out (by kernel_rfl)) (fun _ _ _ h => h) (Or.inl ⟨by rfl, ?_⟩) ?_ ?_
      rotate_left
      ·intro w'
       go_simp
       with_reducible rfl
      rotate_left
      ·simp only [Act.put, List.setIfInBounds_toArray, List.set_cons_zero, List.set_cons_succ, i64_w, i32_w]
       rfl
      refine pure_ (i := 7) (N := some 30) (v := ?_) (a' := ?_) bqFx59_31 rfl rfl (any_of HT_.out (by kernel_rfl)) (fun _ _ _ h => h) (Or.inl ⟨by rfl, ?_⟩) ?_ ?_
      rotate_left
      ·intro w'
       go_simp
       with_reducible rfl
      rotate_left
      ·simp only [Act.put, List.setIfInBounds_toArray, List.set_cons_zero, List.set_cons_succ, i64_w, i32_w]
       rfl
      refine take_ (i := 6) (N := some 29) (v := ?_) (a' := ?_) bqFx59_8 rfl rfl (take_ofW HT_.out HW_.out (by kernel_rfl)) (fun _ _ _ h => h) (Or.inl ⟨by rfl, ?_⟩) hHeld ?_ ?_
      rotate_left
      ·rintro w' ⟨s0, s1, s2, s3, s4, s5⟩
       go_simp
       with_reducible rfl
      rotate_left
      ·simp only [Act.put, List.setIfInBounds_toArray, List.set_cons_zero, List.set_cons_succ, i64_w, i32_w]
       rfl
      refine take_ (i := 8) (N := some 31) (v := ?_) (a' := ?_) bqFx59_9 rfl rfl (take_ofW HT_.out HW_.out (by kernel_rfl)) (fun _ _ _ h => h) (Or.inl ⟨by rfl, ?_⟩) hHeld ?_ ?_
      rotate_left
      ·rintro w' ⟨s0, s1, s2, s3, s4, s5⟩
       go_simp
       with_reducible rfl
      rotate_left
      ·simp only [Act.put, List.setIfInBounds_toArray, List.set_cons_zero, List.set_cons_succ, i64_w, i32_w]
       rfl
      refine pure_ (i := 9) (N := some 32) (v := ?_) (a' := ?_) bqFx59_10 rfl rfl (any_of HT_.out (by kernel_rfl)) (fun _ _ _ h => h) (Or.inl ⟨by rfl, ?_⟩) ?_ ?_
      rotate_left
      ·intro w'
       go_simp
       with_reducible rfl
      rotate_left
      ·simp only [Act.put, List.setIfInBounds_toArray, List.set_cons_zero, List.set_cons_succ, i64_w, i32_w]
       rfl
      refine one_ (i := 10) (N := some 33) bqFx59_11 rfl rfl (one_of HT_.out (by kernel_rfl)) (by decide) (fun K hK => ?_)
      refine goes_ Try.func66 (by kernel_rfl) rfl #[.int .i64 ((rd_T115 l0_1 x18_2).f1), .int .i64 1, .int .i64 (wrap64 (a0_0 - 1))] (by rfl) rfl rfl (by (try simp only [List.map_toArray, List.map_cons, List.map_nil]); first | done | rfl | (simp only [List.length_drop, List.length_take]; rfl)) ?_
      with_reducible refine (impl_in.calls ((rd_T115 l0_1 x18_2).f1) 1 (wrap64 (a0_0 - 1)) true _ A18.out).mono ?_
      rintro e w' ⟨rfl, ⟨nd, rfl⟩⟩
      refine ⟨_, rfl, ?_⟩
      refine hK.out _ _ ⟨(blk_cell BK591004.out 0).trans rfl, (blk_cell BK591004.out 1).trans rfl, (blk_cell BK591001.out 0).trans rfl, (blk_cell BK591001.out 1).trans rfl, ((HB.out.cell (World.block_lt_of_cell? w _ hw591007_0)).trans hw591007_0), ((HB.out.cell (World.block_lt_of_cell? w _ hw591007_1)).trans hw591007_1)⟩ (fun hHeld => ?_)
      clear hK K
      refine norm_ (a' := ?_) ?_ ?_
      rotate_left
      ·show Act.put _ (some 33) _ = _
       simp only [Act.put, List.setIfInBounds_toArray, List.set_cons_zero, List.set_cons_succ, i64_w, i32_w]
       rfl
      refine pure_ (i := 11) (N := some 34) (v := ?_) (a' := ?_) bqFx59_12 rfl rfl (any_of HT_.out (by kernel_rfl)) (fun _ _ _ h => h) (Or.inl ⟨by rfl, ?_⟩) ?_ ?_
      rotate_left
      ·intro w'
       go_simp
       with_reducible rfl
      rotate_left
      ·simp only [Act.put, List.setIfInBounds_toArray, List.set_cons_zero, List.set_cons_succ, i64_w, i32_w]
       rfl
      refine pure_ (i := 12) (N := some 35) (v := ?_) (a' := ?_) bqFx59_13 rfl rfl (any_of HT_.out (by kernel_rfl)) (fun _ _ _ h => h) (Or.inl ⟨by rfl, ?_⟩) ?_ ?_
      rotate_left
      ·intro w'
       go_simp
       with_reducible rfl
      rotate_left
      ·simp only [Act.put, List.setIfInBounds_toArray, List.set_cons_zero, List.set_cons_succ, i64_w, i32_w]
       rfl
      refine pure_ (i := 13) (N := some 36) (v := ?_) (a' := ?_) bqFx59_14 rfl rfl (any_of HT_.out (by kernel_rfl)) (fun _ _ _ h => h) (Or.inl ⟨by rfl, ?_⟩) ?_ ?_
      rotate_left
      ·intro w'
       go_simp
       with_reducible rfl
      rotate_left
      ·simp only [Act.put, List.setIfInBounds_toArray, List.set_cons_zero, List.set_cons_succ, i64_w, i32_w]
       rfl
      refine pure_ (i := 14) (N := some 37) (v := ?_) (a' := ?_) bqFx59_15 rfl rfl (any_of HT_.out (by kernel_rfl)) (fun _ _ _ h => h) (Or.inl ⟨by rfl, ?_⟩) ?_ ?_
      rotate_left
      ·intro w'
       go_simp
       with_reducible rfl
      rotate_left
      ·simp only [Act.put, List.setIfInBounds_toArray, List.set_cons_zero, List.set_cons_succ, i64_w, i32_w]
       rfl
      refine pure_ (i := 15) (N := some 38) (v := ?_) (a' := ?_) bqFx59_16 rfl rfl (any_of HT_.out (by kernel_rfl)) (fun _ _ _ h => h) (Or.inl ⟨by rfl, ?_⟩) ?_ ?_
      rotate_left
      ·intro w'
       go_simp
       with_reducible rfl
      rotate_left
      ·simp only [Act.put, List.setIfInBounds_toArray, List.set_cons_zero, List.set_cons_succ, i64_w, i32_w]
       rfl
      refine pure_ (i := 16) (N := some 39) (v := ?_) (a' := ?_) bqFx59_17 rfl rfl (any_of HT_.out (by kernel_rfl)) (fun _ _ _ h => h) (Or.inl ⟨by rfl, ?_⟩) ?_ ?_
      rotate_left
      ·intro w'
       go_simp
       with_reducible rfl
      rotate_left
      ·simp only [Act.put, List.setIfInBounds_toArray, List.set_cons_zero, List.set_cons_succ, i64_w, i32_w]
       rfl
      refine pure_ (i := 17) (N := some 40) (v := ?_) (a' := ?_) bqFx59_18 rfl rfl (any_of HT_.out (by kernel_rfl)) (fun _ _ _ h => h) (Or.inl ⟨by rfl, ?_⟩) ?_ ?_
      rotate_left
      ·intro w'
       go_simp
       with_reducible rfl
      rotate_left
      ·simp only [Act.put, List.setIfInBounds_toArray, List.set_cons_zero, List.set_cons_succ, i64_w, i32_w]
       rfl
      refine pure_ (i := 19) (N := some 42) (v := ?_) (a' := ?_) bqFx59_32 rfl rfl (any_of HT_.out (by kernel_rfl)) (fun _ _ _ h => h) (Or.inl ⟨by rfl, ?_⟩) ?_ ?_
      rotate_left
      ·intro w'
       go_simp
       with_reducible rfl
      rotate_left
      ·simp only [Act.put, List.setIfInBounds_toArray, List.set_cons_zero, List.set_cons_succ, i64_w, i32_w]
       rfl
      refine pure_ (i := 20) (N := some 43) (v := ?_) (a' := ?_) bqFx59_33 rfl rfl (any_of HT_.out (by kernel_rfl)) (fun _ _ _ h => h) (Or.inl ⟨by rfl, ?_⟩) ?_ ?_
      rotate_left
      ·intro w'
       go_simp
       with_reducible rfl
      rotate_left
      ·simp only [Act.put, List.setIfInBounds_toArray, List.set_cons_zero, List.set_cons_succ, i64_w, i32_w]
       rfl
      refine pure_ (i := 24) (N := some 47) (v := ?_) (a' := ?_) bqFx59_34 rfl rfl (any_of HT_.out (by kernel_rfl)) (fun _ _ _ h => h) (Or.inl ⟨by rfl, ?_⟩) ?_ ?_
      rotate_left
      ·intro w'
       go_simp
       with_reducible rfl
      rotate_left
      ·simp only [Act.put, List.setIfInBounds_toArray, List.set_cons_zero, List.set_cons_succ, i64_w, i32_w]
       rfl
      refine take_ (i := 18) (N := some 41) (v := ?_) (a' := ?_) bqFx59_35 rfl rfl (take_ofW HT_.out HW_.out (by kernel_rfl)) (fun _ _ _ h => h) (Or.inl ⟨by rfl, ?_⟩) hHeld ?_ ?_
      rotate_left
      ·rintro w' ⟨s0, s1, s2, s3, s4, s5⟩
       go_simp
       with_reducible rfl
      rotate_left
      ·simp only [Act.put, List.setIfInBounds_toArray, List.set_cons_zero, List.set_cons_succ, i64_w, i32_w]
       rfl
      refine pure_ (i := 21) (N := some 44) (v := ?_) (a' := ?_) bqFx59_36 rfl rfl (any_of HT_.out (by kernel_rfl)) (fun _ _ _ h => h) (Or.inl ⟨by rfl, ?_⟩) ?_ ?_
      rotate_left
      ·intro w'
       go_simp
       with_reducible rfl
      rotate_left
      ·simp only [Act.put, List.setIfInBounds_toArray, List.set_cons_zero, List.set_cons_succ, i64_w, i32_w]
       rfl
      refine pure_ (i := 22) (N := some 45) (v := ?_) (a' := ?_) bqFx59_37 rfl rfl (any_of HT_.out (by kernel_rfl)) (fun _ _ _ h => h) (Or.inl ⟨by rfl, ?_⟩) ?_ ?_
      rotate_left
      ·intro w'
       go_simp
       with_reducible rfl
      rotate_left
      ·simp only [Act.put, List.setIfInBounds_toArray, List.set_cons_zero, List.set_cons_succ, i64_w, i32_w]
       rfl
      refine take_ (i := 23) (N := some 46) (v := ?_) (a' := ?_) bqFx59_25 rfl rfl (take_ofW HT_.out HW_.out (by kernel_rfl)) (fun _ _ _ h => h) (Or.inl ⟨by rfl, ?_⟩) hHeld ?_ ?_
      rotate_left
      ·rintro w' ⟨s0, s1, s2, s3, s4, s5⟩
       go_simp
       with_reducible rfl
      rotate_left
      ·simp only [Act.put, List.setIfInBounds_toArray, List.set_cons_zero, List.set_cons_succ, i64_w, i32_w]
       rfl
      refine take_ (i := 25) (N := some 48) (v := ?_) (a' := ?_) bqFx59_26 rfl rfl (take_ofW HT_.out HW_.out (by kernel_rfl)) (fun _ _ _ h => h) (Or.inl ⟨by rfl, ?_⟩) hHeld ?_ ?_
      rotate_left
      ·rintro w' ⟨s0, s1, s2, s3, s4, s5⟩
       go_simp
       with_reducible rfl
      rotate_left
      ·simp only [Act.put, List.setIfInBounds_toArray, List.set_cons_zero, List.set_cons_succ, i64_w, i32_w]
       rfl
      refine one_ (i := 26) (N := some 49) bqFx59_27 rfl rfl (one_of HT_.out (by kernel_rfl)) (by decide) (fun K hK => ?_)
      refine goes_ Try.func118 (by kernel_rfl) rfl #[.slice A591007_0 ((rd_T115 l0_1 (ji21)).f0).length c591007_0, .slice A591003_0 ((rd_T115 l0_1 x18_2).f0).length c591003_0] (by rfl) rfl rfl (by (try simp only [List.map_toArray, List.map_cons, List.map_nil]); first | done | (simp only [hji21]; rfl) | rfl | (simp only [List.length_drop, List.length_take]; rfl)) ?_
      with_reducible refine (impl_wordOrder.calls k2 _ _ ((rd_T115 l0_1 (ji21)).f0) _ _ ((rd_T115 l0_1 x18_2).f0) t591008 _ ?side1 ?side2 ?side3 ?side4 A24.out).mono ?_
      (case side1 => repeat (first | exact (Kd.C_below HR591007_0.out (by repeat (first | (with_reducible first | exact HB.out | apply below_alloc | apply pw_below_drewN | apply below_drew1 | refine below_set ?_ GE591001.out | refine below_set ?_ GE591004.out) | exact HB.out))) | (with_reducible refine Kd.C_alloc ?_ _) | (with_reducible refine Kd.C_drewN ?_ _) | (with_reducible refine Kd.C_drew ?_)))
      (case side2 => exact HC591007_0.out)
      (case side3 => repeat (first | exact (Kd.C_below HR591003_0.out (by repeat (first | (with_reducible first | exact HB.out | apply below_alloc | apply pw_below_drewN | apply below_drew1 | refine below_set ?_ GE591001.out | refine below_set ?_ GE591004.out) | exact HB.out))) | (with_reducible refine Kd.C_alloc ?_ _) | (with_reducible refine Kd.C_drewN ?_ _) | (with_reducible refine Kd.C_drew ?_)))
      (case side4 => exact HC591003_0.out)
      rintro e w32 ⟨rfl, hb⟩
      refine ⟨_, rfl, ?_⟩
      have n0_ := Aside0.mk (blk_below (g := gb591001) (o := .cells #[.int .i64 a0_0, .slice (some ad591003) l0_1.length c0_1] 46 (0, 0)) (by (with_reducible repeat (first | refine blk_drewN ?_ _ | refine blk_drew ?_ | refine blk_alloc ?_ _)); exact BK591001.out) hb)
      have n1_ := Aside0.mk (blk_below (g := gb591004) (o := .cells #[.slice A591003_0 ((rd_T115 l0_1 x18_2).f0).length c591003_0, .int .i64 ((rd_T115 l0_1 x18_2).f1)] 115 (0, 0)) (by (with_reducible repeat (first | refine blk_drewN ?_ _ | refine blk_drew ?_ | refine blk_alloc ?_ _)); exact BK591004.out) hb)
      have n2_ := Aside0.mk (below_step (by repeat (first | (with_reducible first | exact HB.out | apply below_alloc | apply pw_below_drewN | apply below_drew1 | refine below_set ?_ GE591001.out | refine below_set ?_ GE591004.out) | exact HB.out)) hb)
      clear BK591001
      clear BK591004
      clear HB
      have BK591001 := n0_
      have BK591004 := n1_
      have HB := n2_
      clear n0_ n1_ n2_
      (try clear hb)
      (try clear hb2)
      (try clear hk)
      (try clear hi)
      refine hK.out _ _ ⟨(blk_cell BK591004.out 0).trans rfl, (blk_cell BK591004.out 1).trans rfl, (blk_cell BK591001.out 0).trans rfl, (blk_cell BK591001.out 1).trans rfl, ((HB.out.cell (World.block_lt_of_cell? w _ hw591007_0)).trans hw591007_0), ((HB.out.cell (World.block_lt_of_cell? w _ hw591007_1)).trans hw591007_1)⟩ (fun hHeld => ?_)
      clear hK K
      refine norm_ (a' := ?_) ?_ ?_
      rotate_left
      ·show Act.put _ (some 49) _ = _
       simp only [Act.put, List.setIfInBounds_toArray, List.set_cons_zero, List.set_cons_succ, i64_w, i32_w]
       rfl
      refine pure_ (i := 27) (N := some 50) (v := ?_) (a' := ?_) bqFx59_28 rfl rfl (any_of HT_.out (by kernel_rfl)) (fun _ _ _ h => h) (Or.inl ⟨by rfl, ?_⟩) ?_ ?_
      rotate_left
      ·intro w'
       go_simp
       with_reducible rfl
      rotate_left
      ·simp only [Act.put, List.setIfInBounds_toArray, List.set_cons_zero, List.set_cons_succ, i64_w, i32_w]
       rfl
      refine pure_ (i := 28) (N := some 51) (v := ?_) (a' := ?_) bqFx59_29 rfl rfl (any_of HT_.out (by kernel_rfl)) (fun _ _ _ h => h) (Or.inl ⟨by rfl, ?_⟩) ?_ ?_
      rotate_left
      ·intro w'
       go_simp
       with_reducible rfl
      rotate_left
      ·simp only [Act.put, List.setIfInBounds_toArray, List.set_cons_zero, List.set_cons_succ, i64_w, i32_w]
       rfl
      refine pure_ (i := 29) (N := some 52) (v := ?_) (a' := ?_) bqFx59_30 rfl rfl (any_of HT_.out (by kernel_rfl)) (fun _ _ _ h => h) (Or.inl ⟨by rfl, ?_⟩) ?_ ?_
      rotate_left
      ·intro w'
       go_simp
       with_reducible rfl
      rotate_left
      ·simp only [Act.put, List.setIfInBounds_toArray, List.set_cons_zero, List.set_cons_succ, i64_w, i32_w]
       rfl
      refine done_ (done_of HT_.out (by kernel_rfl)) ?_
      try go_wp2
      go_ret
      exact ⟨by first | rfl | (simp [errW_none, errW_some] <;> rfl) | (simp only [← hji21]; first | rfl | (simp [errW_none, errW_some] <;> rfl)) | (simp [*, errW_none, errW_some] <;> rfl), by repeat (first | (with_reducible first | exact HB.out | apply below_alloc | apply pw_below_drewN | apply below_drew1 | refine below_set ?_ GE591001.out | refine below_set ?_ GE591004.out) | exact HB.out)⟩
     rw [if_neg c25] at H
     have c25b0 : decide (0 ≤ t591008) = false := decide_eq_false c25
     clear c25
     have H' := Aside0.mk H
     clear H
     have p591003 : 0 ≤ (x18_2 : Int) := of_decide_eq_true (by first | (with_reducible assumption) | assumption)
     have q591003 : x18_2 < (l0_1.length : Int) := of_decide_eq_true (by first | (with_reducible assumption) | assumption)
     obtain ⟨ad591003, A591003_0, c591003_0, e591003, hx591003_0, hx591003_1, hl591003_0, hi591003_0⟩ := at_T115 HR0_1.out x18_2 p591003 q591003
     cases e591003
     replace hx591003_0 := (HB.out.cell (World.block_lt_of_cell? w _ hx591003_0)).trans hx591003_0
     replace hx591003_1 := (HB.out.cell (World.block_lt_of_cell? w _ hx591003_1)).trans hx591003_1
     have HR591003_0 := Aside0.mk hi591003_0
     have HC591003_0 := Aside0.mk hl591003_0
     clear hi591003_0 hl591003_0
     replace p591003 := eq_true p591003
     replace q591003 := eq_true q591003
     try go_wp2_with (first | ((with_reducible refine gate_dst (N := 4) rfl ?_); (try (refine gate_guard (by rfl) ?_; dsimp only)); refine box_event ?hg (N := 4) ?hd (cs := #[.slice none 0 0, .int .i64 0]) (t := 115) ?hr ?_; (case hd => rfl); (case hg => rfl); (case hr => first | (go_simp; done) | (go_simp; rfl)); intro gb591004 hg w33 hbox hb; have n0_ := Aside0.mk (blk_below (g := gb591001) (o := .cells #[.int .i64 a0_0, .slice (some ad591003) l0_1.length c0_1] 46 (0, 0)) (by (with_reducible repeat (first | refine blk_drewN ?_ _ | refine blk_drew ?_ | refine blk_alloc ?_ _)); exact BK591001.out) hb); have n1_ := Aside0.mk (below_step (by repeat (first | (with_reducible first | exact HB.out | apply below_alloc | apply pw_below_drewN | apply below_drew1 | refine below_set ?_ GE591001.out) | exact HB.out)) hb); have n2_ := Aside0.mk (hbox); have n3_ := Aside0.mk ((by rw [hg]; exact (below_size (by repeat (first | (with_reducible first | exact HB.out | apply below_alloc | apply pw_below_drewN | apply below_drew1 | refine below_set ?_ GE591001.out) | exact HB.out))) : w.heap.size ≤ gb591004)); have n4_ := Aside0.mk ((by rw [hg]; exact (below_size (by repeat (first | (with_reducible first | exact HB.out | apply below_alloc | apply pw_below_drewN | apply below_drew1 | refine below_set ?_ GE591001.out) | exact HB.out))) : w.heap.size ≤ gb591004)); have n5_ := Aside0.mk ((by rw [hg]; exact Nat.ne_of_lt (blk_lt (g := gb591001) (o := .cells #[.int .i64 a0_0, .slice (some ad591003) l0_1.length c0_1] 46 (0, 0)) (by (with_reducible repeat (first | refine blk_drewN ?_ _ | refine blk_drew ?_ | refine blk_alloc ?_ _)); exact BK591001.out)) : gb591001 ≠ gb591004)); have n6_ := Aside0.mk ((by rw [hg]; exact Nat.ne_of_gt (blk_lt (g := gb591001) (o := .cells #[.int .i64 a0_0, .slice (some ad591003) l0_1.length c0_1] 46 (0, 0)) (by (with_reducible repeat (first | refine blk_drewN ?_ _ | refine blk_drew ?_ | refine blk_alloc ?_ _)); exact BK591001.out)) : gb591004 ≠ gb591001)); clear BK591001; clear HB; have BK591001 := n0_; have HB := n1_; have BK591004 := n2_; have GW591004 := n3_; have GE591004 := n4_; have NB591001_591004 := n5_; have NB591004_591001 := n6_; clear n0_ n1_ n2_ n3_ n4_ n5_ n6_; clear hb hbox hg; have hnb34 := NB591004_591001.out; have hnc34 := NB591001_591004.out; have hcz35_0 : w33.cell? ⟨gb591004, 0, none⟩ = some (.slice none 0 0) := (blk_cell BK591004.out 0).trans rfl; have hcz35_1 : w33.cell? ⟨gb591004, 1, none⟩ = some (.int .i64 0) := (blk_cell BK591004.out 1).trans rfl; have hfz35_0 := blk_frozen BK591004.out 0; have hfz35_1 := blk_frozen BK591004.out 1))
     have n0_ : Aside0 (((w33.setCell ⟨gb591004, 0, none⟩ (.slice A591003_0 ((rd_T115 l0_1 x18_2).f0).length c591003_0)).setCell ⟨gb591004, 1, none⟩ (.int .i64 ((rd_T115 l0_1 x18_2).f1))).heap[gb591001]? = some (.cells #[.int .i64 a0_0, .slice (some ad591003) l0_1.length c0_1] 46 (0, 0))) := ⟨by (with_reducible repeat (first | refine blk_drewN ?_ _ | refine blk_drew ?_ | refine blk_alloc ?_ _)); refine blk_far ?_ NB591001_591004.out _; (with_reducible repeat (first | refine blk_drewN ?_ _ | refine blk_drew ?_ | refine blk_alloc ?_ _)); refine blk_far ?_ NB591001_591004.out _; (with_reducible repeat (first | refine blk_drewN ?_ _ | refine blk_drew ?_ | refine blk_alloc ?_ _)); exact BK591001.out⟩
     have n1_ : Aside0 (((w33.setCell ⟨gb591004, 0, none⟩ (.slice A591003_0 ((rd_T115 l0_1 x18_2).f0).length c591003_0)).setCell ⟨gb591004, 1, none⟩ (.int .i64 ((rd_T115 l0_1 x18_2).f1))).heap[gb591004]? = some (.cells #[.slice A591003_0 ((rd_T115 l0_1 x18_2).f0).length c591003_0, .int .i64 ((rd_T115 l0_1 x18_2).f1)] 115 (0, 0))) := ⟨by (with_reducible repeat (first | refine blk_drewN ?_ _ | refine blk_drew ?_ | refine blk_alloc ?_ _)); refine blk_put (cs := #[.slice A591003_0 ((rd_T115 l0_1 x18_2).f0).length c591003_0, .int .i64 0]) ?_ 1 _ rfl; (with_reducible repeat (first | refine blk_drewN ?_ _ | refine blk_drew ?_ | refine blk_alloc ?_ _)); refine blk_put (cs := #[.slice none 0 0, .int .i64 0]) ?_ 0 _ rfl; (with_reducible repeat (first | refine blk_drewN ?_ _ | refine blk_drew ?_ | refine blk_alloc ?_ _)); exact BK591004.out⟩
     have n2_ : Aside0 (Below w.heap.size w ((w33.setCell ⟨gb591004, 0, none⟩ (.slice A591003_0 ((rd_T115 l0_1 x18_2).f0).length c591003_0)).setCell ⟨gb591004, 1, none⟩ (.int .i64 ((rd_T115 l0_1 x18_2).f1)))) := ⟨by repeat (first | (with_reducible first | exact HB.out | apply below_alloc | apply pw_below_drewN | apply below_drew1 | refine below_set ?_ GE591001.out | refine below_set ?_ GE591004.out) | exact HB.out)⟩
     (try clear BK591001)
     (try clear BK591004)
     (try clear HB)
     generalize ((w33.setCell ⟨gb591004, 0, none⟩ (.slice A591003_0 ((rd_T115 l0_1 x18_2).f0).length c591003_0)).setCell ⟨gb591004, 1, none⟩ (.int .i64 ((rd_T115 l0_1 x18_2).f1))) = w36 at n0_ n1_ n2_ ⊢
     have BK591001 := n0_
     have BK591004 := n1_
     have HB := n2_
     clear n0_ n1_ n2_
     have n0_ := Aside0.mk (blk_drew BK591001.out)
     have n1_ := Aside0.mk (blk_drew BK591004.out)
     have n2_ := Aside0.mk (below_drew1 HB.out)
     clear BK591001
     clear BK591004
     clear HB
     have BK591001 := n0_
     have BK591004 := n1_
     have HB := n2_
     clear n0_ n1_ n2_
     have p591007 : 0 ≤ ((ji21) : Int) := of_decide_eq_true (by first | (with_reducible assumption) | assumption)
     have q591007 : (ji21) < (l0_1.length : Int) := of_decide_eq_true (by first | (with_reducible assumption) | assumption)
     obtain ⟨ad591007, A591007_0, c591007_0, e591007, hx591007_0, hx591007_1, hl591007_0, hi591007_0⟩ := at_T115 HR0_1.out (ji21) p591007 q591007
     have hw591007_1 := hx591007_1
     have hw591007_0 := hx591007_0
     obtain rfl : ad591003 = ad591007 := (by injection e591007)
     replace hx591007_0 := (HB.out.cell (World.block_lt_of_cell? w _ hx591007_0)).trans hx591007_0
     replace hx591007_1 := (HB.out.cell (World.block_lt_of_cell? w _ hx591007_1)).trans hx591007_1
     have HR591007_0 := Aside0.mk hi591007_0
     have HC591007_0 := Aside0.mk hl591007_0
     clear hi591007_0 hl591007_0
     replace p591007 := eq_true p591007
     replace q591007 := eq_true q591007
     refine start_ (n := 30) (S := fun w' => w'.cell? ⟨gb591004, 0, none⟩ = some (.slice A591003_0 ((rd_T115 l0_1 x18_2).f0).length c591003_0) ∧ w'.cell? ⟨gb591004, 1, none⟩ = some (.int .i64 ((rd_T115 l0_1 x18_2).f1)) ∧ w'.cell? ⟨gb591001, 0, none⟩ = some (.int .i64 a0_0) ∧ w'.cell? ⟨gb591001, 1, none⟩ = some (.slice (some ad591003) l0_1.length c0_1) ∧ w'.cell? (ad591003.add (((ji21)).toNat * 2)) = some (.slice A591007_0 ((rd_T115 l0_1 (ji21)).f0).length c591007_0) ∧ w'.cell? ⟨(ad591003.add (((ji21)).toNat * 2)).block, (ad591003.add (((ji21)).toNat * 2)).off + 1, none⟩ = some (.int .i64 ((rd_T115 l0_1 (ji21)).f1))) (ds := []) bqFx59_0 (by kernel_rfl) rfl rfl ⟨(blk_cell BK591004.out 0).trans rfl, (blk_cell BK591004.out 1).trans rfl, (blk_cell BK591001.out 0).trans rfl, (blk_cell BK591001.out 1).trans rfl, ((HB.out.cell (World.block_lt_of_cell? w _ hw591007_0)).trans hw591007_0), ((HB.out.cell (World.block_lt_of_cell? w _ hw591007_1)).trans hw591007_1)⟩ (fun hHeld => ?_); refine with_tabW impl_IsSum.tab6 impl_IsSum.bits6 (fun HT_ HW_ => ?_)
     generalize w36.drew = w37 at BK591001 BK591004 HB HR591007_0 hx591007_0 hx591007_1 hHeld ⊢
     refine pure_ (i := 0) (N := some 23) (v := ?_) (a' := ?_) bqFx59_1 rfl rfl (any_of HT_.out (by kernel_rfl)) (fun _ _ _ h => h) (Or.inl ⟨by rfl, ?_⟩) ?_ ?_
     rotate_left
     ·intro w'
      go_simp
      with_reducible rfl
     rotate_left
     ·simp only [Act.put, List.setIfInBounds_toArray, List.set_cons_zero, List.set_cons_succ, i64_w, i32_w]
      rfl
     refine take_ (i := 1) (N := some 24) (v := ?_) (a' := ?_) bqFx59_2 rfl rfl (take_ofW HT_.out HW_.out (by kernel_rfl)) (fun _ _ _ h => h) (Or.inl ⟨by rfl, ?_⟩) hHeld ?_ ?_
     rotate_left
     ·rintro w' ⟨s0, s1, s2, s3, s4, s5⟩
      go_simp
      with_reducible rfl
     rotate_left
     ·simp only [Act.put, List.setIfInBounds_toArray, List.set_cons_zero, List.set_cons_succ, i64_w, i32_w]
      rfl
     refine one_ (i := 2) (N := some 25) bqFx59_3 rfl rfl (one_of HT_.out (by kernel_rfl)) (by decide) (fun K hK => ?_)
     refine goes_ Try.func58 (by kernel_rfl) rfl #[.slice A591003_0 ((rd_T115 l0_1 x18_2).f0).length c591003_0] (by rfl) rfl rfl (by (try simp only [List.map_toArray, List.map_cons, List.map_nil]); first | done | rfl | (simp only [List.length_drop, List.length_take]; rfl)) ?_
     with_reducible refine (impl_IsWord.calls k2 _ _ ((rd_T115 l0_1 x18_2).f0) true _ ?side1 ?side2 A16.out).mono ?_
     (case side1 => repeat (first | exact (Kd.C_below HR591003_0.out HB.out) | (with_reducible refine Kd.C_alloc ?_ _) | (with_reducible refine Kd.C_drewN ?_ _) | (with_reducible refine Kd.C_drew ?_)))
     (case side2 => exact HC591003_0.out)
     rintro e w38 ⟨rfl, hb⟩
     refine ⟨_, rfl, ?_⟩
     have n0_ := Aside0.mk (blk_below (g := gb591001) (o := .cells #[.int .i64 a0_0, .slice (some ad591003) l0_1.length c0_1] 46 (0, 0)) (by (with_reducible repeat (first | refine blk_drewN ?_ _ | refine blk_drew ?_ | refine blk_alloc ?_ _)); exact BK591001.out) hb)
     have n1_ := Aside0.mk (blk_below (g := gb591004) (o := .cells #[.slice A591003_0 ((rd_T115 l0_1 x18_2).f0).length c591003_0, .int .i64 ((rd_T115 l0_1 x18_2).f1)] 115 (0, 0)) (by (with_reducible repeat (first | refine blk_drewN ?_ _ | refine blk_drew ?_ | refine blk_alloc ?_ _)); exact BK591004.out) hb)
     have n2_ := Aside0.mk (below_step (by repeat (first | (with_reducible first | exact HB.out | apply below_alloc | apply pw_below_drewN | apply below_drew1 | refine below_set ?_ GE591001.out | refine below_set ?_ GE591004.out) | exact HB.out)) hb)
     clear BK591001
     clear BK591004
     clear HB
     have BK591001 := n0_
     have BK591004 := n1_
     have HB := n2_
     clear n0_ n1_ n2_
     (try clear hb)
     (try clear hb2)
     (try clear hk)
     (try clear hi)
     refine hK.out _ _ ⟨(blk_cell BK591004.out 0).trans rfl, (blk_cell BK591004.out 1).trans rfl, (blk_cell BK591001.out 0).trans rfl, (blk_cell BK591001.out 1).trans rfl, ((HB.out.cell (World.block_lt_of_cell? w _ hw591007_0)).trans hw591007_0), ((HB.out.cell (World.block_lt_of_cell? w _ hw591007_1)).trans hw591007_1)⟩ (fun hHeld => ?_)
     clear hK K
     refine norm_ (a' := ?_) ?_ ?_
     rotate_left
     ·show Act.put _ (some 25) _ = _
      simp only [Act.put, List.setIfInBounds_toArray, List.set_cons_zero, List.set_cons_succ, i64_w, i32_w]
      rfl
     refine pure_ (i := 3) (N := some 26) (v := ?_) (a' := ?_) bqFx59_4 rfl rfl (any_of HT_.out (by kernel_rfl)) (fun _ _ _ h => h) (Or.inl ⟨by rfl, ?_⟩) ?_ ?_
     rotate_left
     ·intro w'
      go_simp
      with_reducible rfl
     rotate_left
     ·simp only [Act.put, List.setIfInBounds_toArray, List.set_cons_zero, List.set_cons_succ, i64_w, i32_w]
      rfl
     refine pure_ (i := 4) (N := some 27) (v := ?_) (a' := ?_) bqFx59_5 rfl rfl (any_of HT_.out (by kernel_rfl)) (fun _ _ _ h => h) (Or.inl ⟨by rfl, ?_⟩) ?_ ?_
     rotate_left
     ·intro w'
      go_simp
      with_reducible rfl
     rotate_left
     ·simp only [Act.put, List.setIfInBounds_toArray, List.set_cons_zero, List.set_cons_succ, i64_w, i32_w]
      rfl
     refine pure_ (i := 5) (N := some 28) (v := ?_) (a' := ?_) bqFx59_6 rfl rfl (any_of HT_.out (by kernel_rfl)) (fun _ _ _ h => h) (Or.inl ⟨by rfl, ?_⟩) ?_ ?_
     rotate_left
     ·intro w'
      go_simp
      with_reducible rfl
     rotate_left
     ·simp only [Act.put, List.setIfInBounds_toArray, List.set_cons_zero, List.set_cons_succ, i64_w, i32_w]
      rfl
     refine pure_ (i := 7) (N := some 30) (v := ?_) (a' := ?_) bqFx59_31 rfl rfl (any_of HT_.out (by kernel_rfl)) (fun _ _ _ h => h) (Or.inl ⟨by rfl, ?_⟩) ?_ ?_
     rotate_left
     ·intro w'
      go_simp
      with_reducible rfl
     rotate_left
     ·simp only [Act.put, List.setIfInBounds_toArray, List.set_cons_zero, List.set_cons_succ, i64_w, i32_w]
      rfl
     refine take_ (i := 6) (N := some 29) (v := ?_) (a' := ?_) bqFx59_8 rfl rfl (take_ofW HT_.out HW_.out (by kernel_rfl)) (fun _ _ _ h => h) (Or.inl ⟨by rfl, ?_⟩) hHeld ?_ ?_
     rotate_left
     ·rintro w' ⟨s0, s1, s2, s3, s4, s5⟩
      go_simp
      with_reducible rfl
     rotate_left
     ·simp only [Act.put, List.setIfInBounds_toArray, List.set_cons_zero, List.set_cons_succ, i64_w, i32_w]
      rfl
     refine take_ (i := 8) (N := some 31) (v := ?_) (a' := ?_) bqFx59_9 rfl rfl (take_ofW HT_.out HW_.out (by kernel_rfl)) (fun _ _ _ h => h) (Or.inl ⟨by rfl, ?_⟩) hHeld ?_ ?_
     rotate_left
     ·rintro w' ⟨s0, s1, s2, s3, s4, s5⟩
      go_simp
      with_reducible rfl
     rotate_left
     ·simp only [Act.put, List.setIfInBounds_toArray, List.set_cons_zero, List.set_cons_succ, i64_w, i32_w]
      rfl
     refine pure_ (i := 9) (N := some 32) (v := ?_) (a' := ?_) bqFx59_10 rfl rfl (any_of HT_.out (by kernel_rfl)) (fun _ _ _ h => h) (Or.inl ⟨by rfl, ?_⟩) ?_ ?_
     rotate_left
     ·intro w'
      go_simp
      with_reducible rfl
     rotate_left
     ·simp only [Act.put, List.setIfInBounds_toArray, List.set_cons_zero, List.set_cons_succ, i64_w, i32_w]
      rfl
     refine one_ (i := 10) (N := some 33) bqFx59_11 rfl rfl (one_of HT_.out (by kernel_rfl)) (by decide) (fun K hK => ?_)
     refine goes_ Try.func66 (by kernel_rfl) rfl #[.int .i64 ((rd_T115 l0_1 x18_2).f1), .int .i64 1, .int .i64 (wrap64 (a0_0 - 1))] (by rfl) rfl rfl (by (try simp only [List.map_toArray, List.map_cons, List.map_nil]); first | done | rfl | (simp only [List.length_drop, List.length_take]; rfl)) ?_
     with_reducible refine (impl_in.calls ((rd_T115 l0_1 x18_2).f1) 1 (wrap64 (a0_0 - 1)) true _ A18.out).mono ?_
     rintro e w' ⟨rfl, ⟨nd, rfl⟩⟩
     refine ⟨_, rfl, ?_⟩
     refine hK.out _ _ ⟨(blk_cell BK591004.out 0).trans rfl, (blk_cell BK591004.out 1).trans rfl, (blk_cell BK591001.out 0).trans rfl, (blk_cell BK591001.out 1).trans rfl, ((HB.out.cell (World.block_lt_of_cell? w _ hw591007_0)).trans hw591007_0), ((HB.out.cell (World.block_lt_of_cell? w _ hw591007_1)).trans hw591007_1)⟩ (fun hHeld => ?_)
     clear hK K
     refine norm_ (a' := ?_) ?_ ?_
     rotate_left
     ·show Act.put _ (some 33) _ = _
      simp only [Act.put, List.setIfInBounds_toArray, List.set_cons_zero, List.set_cons_succ, i64_w, i32_w]
      rfl
     refine pure_ (i := 11) (N := some 34) (v := ?_) (a' := ?_) bqFx59_12 rfl rfl (any_of HT_.out (by kernel_rfl)) (fun _ _ _ h => h) (Or.inl ⟨by rfl, ?_⟩) ?_ ?_
     rotate_left
     ·intro w'
      go_simp
      with_reducible rfl
     rotate_left
     ·simp only [Act.put, List.setIfInBounds_toArray, List.set_cons_zero, List.set_cons_succ, i64_w, i32_w]
      rfl
     refine pure_ (i := 12) (N := some 35) (v := ?_) (a' := ?_) bqFx59_13 rfl rfl (any_of HT_.out (by kernel_rfl)) (fun _ _ _ h => h) (Or.inl ⟨by rfl, ?_⟩) ?_ ?_
     rotate_left
     ·intro w'
      go_simp
      with_reducible rfl
     rotate_left
     ·simp only [Act.put, List.setIfInBounds_toArray, List.set_cons_zero, List.set_cons_succ, i64_w, i32_w]
      rfl
     refine pure_ (i := 13) (N := some 36) (v := ?_) (a' := ?_) bqFx59_14 rfl rfl (any_of HT_.out (by kernel_rfl)) (fun _ _ _ h => h) (Or.inl ⟨by rfl, ?_⟩) ?_ ?_
     rotate_left
     ·intro w'
      go_simp
      with_reducible rfl
     rotate_left
     ·simp only [Act.put, List.setIfInBounds_toArray, List.set_cons_zero, List.set_cons_succ, i64_w, i32_w]
      rfl
     refine pure_ (i := 14) (N := some 37) (v := ?_) (a' := ?_) bqFx59_15 rfl rfl (any_of HT_.out (by kernel_rfl)) (fun _ _ _ h => h) (Or.inl ⟨by rfl, ?_⟩) ?_ ?_
     rotate_left
     ·intro w'
      go_simp
      with_reducible rfl
     rotate_left
     ·simp only [Act.put, List.setIfInBounds_toArray, List.set_cons_zero, List.set_cons_succ, i64_w, i32_w]
      rfl
     refine pure_ (i := 15) (N := some 38) (v := ?_) (a' := ?_) bqFx59_16 rfl rfl (any_of HT_.out (by kernel_rfl)) (fun _ _ _ h => h) (Or.inl ⟨by rfl, ?_⟩) ?_ ?_
     rotate_left
     ·intro w'
      go_simp
      with_reducible rfl
     rotate_left
     ·simp only [Act.put, List.setIfInBounds_toArray, List.set_cons_zero, List.set_cons_succ, i64_w, i32_w]
      rfl
     refine pure_ (i := 16) (N := some 39) (v := ?_) (a' := ?_) bqFx59_17 rfl rfl (any_of HT_.out (by kernel_rfl)) (fun _ _ _ h => h) (Or.inl ⟨by rfl, ?_⟩) ?_ ?_
     rotate_left
     ·intro w'
      go_simp
      with_reducible rfl
     rotate_left
     ·simp only [Act.put, List.setIfInBounds_toArray, List.set_cons_zero, List.set_cons_succ, i64_w, i32_w]
      rfl
     refine pure_ (i := 17) (N := some 40) (v := ?_) (a' := ?_) bqFx59_18 rfl rfl (any_of HT_.out (by kernel_rfl)) (fun _ _ _ h => h) (Or.inl ⟨by rfl, ?_⟩) ?_ ?_
     rotate_left
     ·intro w'
      go_simp
      with_reducible rfl
     rotate_left
     ·simp only [Act.put, List.setIfInBounds_toArray, List.set_cons_zero, List.set_cons_succ, i64_w, i32_w]
      rfl
     refine pure_ (i := 19) (N := some 42) (v := ?_) (a' := ?_) bqFx59_32 rfl rfl (any_of HT_.out (by kernel_rfl)) (fun _ _ _ h => h) (Or.inl ⟨by rfl, ?_⟩) ?_ ?_
     rotate_left
     ·intro w'
      go_simp
      with_reducible rfl
     rotate_left
     ·simp only [Act.put, List.setIfInBounds_toArray, List.set_cons_zero, List.set_cons_succ, i64_w, i32_w]
      rfl
     refine pure_ (i := 20) (N := some 43) (v := ?_) (a' := ?_) bqFx59_33 rfl rfl (any_of HT_.out (by kernel_rfl)) (fun _ _ _ h => h) (Or.inl ⟨by rfl, ?_⟩) ?_ ?_
     rotate_left
     ·intro w'
      go_simp
      with_reducible rfl
     rotate_left
     ·simp only [Act.put, List.setIfInBounds_toArray, List.set_cons_zero, List.set_cons_succ, i64_w, i32_w]
      rfl
     refine pure_ (i := 24) (N := some 47) (v := ?_) (a' := ?_) bqFx59_34 rfl rfl (any_of HT_.out (by kernel_rfl)) (fun _ _ _ h => h) (Or.inl ⟨by rfl, ?_⟩) ?_ ?_
     rotate_left
     ·intro w'
      go_simp
      with_reducible rfl
     rotate_left
     ·simp only [Act.put, List.setIfInBounds_toArray, List.set_cons_zero, List.set_cons_succ, i64_w, i32_w]
      rfl
     refine take_ (i := 18) (N := some 41) (v := ?_) (a' := ?_) bqFx59_35 rfl rfl (take_ofW HT_.out HW_.out (by kernel_rfl)) (fun _ _ _ h => h) (Or.inl ⟨by rfl, ?_⟩) hHeld ?_ ?_
     rotate_left
     ·rintro w' ⟨s0, s1, s2, s3, s4, s5⟩
      go_simp
      with_reducible rfl
     rotate_left
     ·simp only [Act.put, List.setIfInBounds_toArray, List.set_cons_zero, List.set_cons_succ, i64_w, i32_w]
      rfl
     refine pure_ (i := 21) (N := some 44) (v := ?_) (a' := ?_) bqFx59_36 rfl rfl (any_of HT_.out (by kernel_rfl)) (fun _ _ _ h => h) (Or.inl ⟨by rfl, ?_⟩) ?_ ?_
     rotate_left
     ·intro w'
      go_simp
      with_reducible rfl
     rotate_left
     ·simp only [Act.put, List.setIfInBounds_toArray, List.set_cons_zero, List.set_cons_succ, i64_w, i32_w]
      rfl
     refine pure_ (i := 22) (N := some 45) (v := ?_) (a' := ?_) bqFx59_37 rfl rfl (any_of HT_.out (by kernel_rfl)) (fun _ _ _ h => h) (Or.inl ⟨by rfl, ?_⟩) ?_ ?_
     rotate_left
     ·intro w'
      go_simp
      with_reducible rfl
     rotate_left
     ·simp only [Act.put, List.setIfInBounds_toArray, List.set_cons_zero, List.set_cons_succ, i64_w, i32_w]
      rfl
     refine take_ (i := 23) (N := some 46) (v := ?_) (a' := ?_) bqFx59_25 rfl rfl (take_ofW HT_.out HW_.out (by kernel_rfl)) (fun _ _ _ h => h) (Or.inl ⟨by rfl, ?_⟩) hHeld ?_ ?_
     rotate_left
     ·rintro w' ⟨s0, s1, s2, s3, s4, s5⟩
      go_simp
      with_reducible rfl
     rotate_left
     ·simp only [Act.put, List.setIfInBounds_toArray, List.set_cons_zero, List.set_cons_succ, i64_w, i32_w]
      rfl
     refine take_ (i := 25) (N := some 48) (v := ?_) (a' := ?_) bqFx59_26 rfl rfl (take_ofW HT_.out HW_.out (by kernel_rfl)) (fun _ _ _ h => h) (Or.inl ⟨by rfl, ?_⟩) hHeld ?_ ?_
     rotate_left
     ·rintro w' ⟨s0, s1, s2, s3, s4, s5⟩
      go_simp
      with_reducible rfl
     rotate_left
     ·simp only [Act.put, List.setIfInBounds_toArray, List.set_cons_zero, List.set_cons_succ, i64_w, i32_w]
      rfl
     refine one_ (i := 26) (N := some 49) bqFx59_27 rfl rfl (one_of HT_.out (by kernel_rfl)) (by decide) (fun K hK => ?_)
     refine goes_ Try.func118 (by kernel_rfl) rfl #[.slice A591007_0 ((rd_T115 l0_1 (ji21)).f0).length c591007_0, .slice A591003_0 ((rd_T115 l0_1 x18_2).f0).length c591003_0] (by rfl) rfl rfl (by (try simp only [List.map_toArray, List.map_cons, List.map_nil]); first | done | (simp only [hji21]; rfl) | rfl | (simp only [List.length_drop, List.length_take]; rfl)) ?_
     with_reducible refine (impl_wordOrder.calls k2 _ _ ((rd_T115 l0_1 (ji21)).f0) _ _ ((rd_T115 l0_1 x18_2).f0) t591008 _ ?side1 ?side2 ?side3 ?side4 A24.out).mono ?_
     (case side1 => repeat (first | exact (Kd.C_below HR591007_0.out (by repeat (first | (with_reducible first | exact HB.out | apply below_alloc | apply pw_below_drewN | apply below_drew1 | refine below_set ?_ GE591001.out | refine below_set ?_ GE591004.out) | exact HB.out))) | (with_reducible refine Kd.C_alloc ?_ _) | (with_reducible refine Kd.C_drewN ?_ _) | (with_reducible refine Kd.C_drew ?_)))
     (case side2 => exact HC591007_0.out)
     (case side3 => repeat (first | exact (Kd.C_below HR591003_0.out (by repeat (first | (with_reducible first | exact HB.out | apply below_alloc | apply pw_below_drewN | apply below_drew1 | refine below_set ?_ GE591001.out | refine below_set ?_ GE591004.out) | exact HB.out))) | (with_reducible refine Kd.C_alloc ?_ _) | (with_reducible refine Kd.C_drewN ?_ _) | (with_reducible refine Kd.C_drew ?_)))
     (case side4 => exact HC591003_0.out)
     rintro e w39 ⟨rfl, hb⟩
     refine ⟨_, rfl, ?_⟩
     have n0_ := Aside0.mk (blk_below (g := gb591001) (o := .cells #[.int .i64 a0_0, .slice (some ad591003) l0_1.length c0_1] 46 (0, 0)) (by (with_reducible repeat (first | refine blk_drewN ?_ _ | refine blk_drew ?_ | refine blk_alloc ?_ _)); exact BK591001.out) hb)
     have n1_ := Aside0.mk (blk_below (g := gb591004) (o := .cells #[.slice A591003_0 ((rd_T115 l0_1 x18_2).f0).length c591003_0, .int .i64 ((rd_T115 l0_1 x18_2).f1)] 115 (0, 0)) (by (with_reducible repeat (first | refine blk_drewN ?_ _ | refine blk_drew ?_ | refine blk_alloc ?_ _)); exact BK591004.out) hb)
     have n2_ := Aside0.mk (below_step (by repeat (first | (with_reducible first | exact HB.out | apply below_alloc | apply pw_below_drewN | apply below_drew1 | refine below_set ?_ GE591001.out | refine below_set ?_ GE591004.out) | exact HB.out)) hb)
     clear BK591001
     clear BK591004
     clear HB
     have BK591001 := n0_
     have BK591004 := n1_
     have HB := n2_
     clear n0_ n1_ n2_
     (try clear hb)
     (try clear hb2)
     (try clear hk)
     (try clear hi)
     refine hK.out _ _ ⟨(blk_cell BK591004.out 0).trans rfl, (blk_cell BK591004.out 1).trans rfl, (blk_cell BK591001.out 0).trans rfl, (blk_cell BK591001.out 1).trans rfl, ((HB.out.cell (World.block_lt_of_cell? w _ hw591007_0)).trans hw591007_0), ((HB.out.cell (World.block_lt_of_cell? w _ hw591007_1)).trans hw591007_1)⟩ (fun hHeld => ?_)
     clear hK K
     refine norm_ (a' := ?_) ?_ ?_
     rotate_left
     ·show Act.put _ (some 49) _ = _
      simp only [Act.put, List.setIfInBounds_toArray, List.set_cons_zero, List.set_cons_succ, i64_w, i32_w]
      rfl
     refine pure_ (i := 27) (N := some 50) (v := ?_) (a' := ?_) bqFx59_28 rfl rfl (any_of HT_.out (by kernel_rfl)) (fun _ _ _ h => h) (Or.inl ⟨by rfl, ?_⟩) ?_ ?_
     rotate_left
     ·intro w'
      go_simp
      with_reducible rfl
     rotate_left
     ·simp only [Act.put, List.setIfInBounds_toArray, List.set_cons_zero, List.set_cons_succ, i64_w, i32_w]
      rfl
     refine pure_ (i := 28) (N := some 51) (v := ?_) (a' := ?_) bqFx59_29 rfl rfl (any_of HT_.out (by kernel_rfl)) (fun _ _ _ h => h) (Or.inl ⟨by rfl, ?_⟩) ?_ ?_
     rotate_left
     ·intro w'
      go_simp
      with_reducible rfl
     rotate_left
     ·simp only [Act.put, List.setIfInBounds_toArray, List.set_cons_zero, List.set_cons_succ, i64_w, i32_w]
      rfl
     refine pure_ (i := 29) (N := some 52) (v := ?_) (a' := ?_) bqFx59_30 rfl rfl (any_of HT_.out (by kernel_rfl)) (fun _ _ _ h => h) (Or.inl ⟨by rfl, ?_⟩) ?_ ?_
     rotate_left
     ·intro w'
      go_simp
      with_reducible rfl
     rotate_left
     ·simp only [Act.put, List.setIfInBounds_toArray, List.set_cons_zero, List.set_cons_succ, i64_w, i32_w]
      rfl
     refine done_ (done_of HT_.out (by kernel_rfl)) ?_
     try go_wp2
     go_roundg k2
     case measure => have := HJ1.out; have := HK2.out; omega
     case rel => exact ⟨(wrap64 (x18_2 + 1)), (by first | rfl | (simp; done) | (simp [*]; done)), H', ⟨by have := HJ1.out; have := HK2.out; omega⟩, ⟨by (with_reducible repeat (first | refine blk_drewN ?_ _ | refine blk_drew ?_ | refine blk_alloc ?_ _)); exact BK591001.out⟩, ⟨by repeat (first | (with_reducible first | exact HB.out | apply below_alloc | apply pw_below_drewN | apply below_drew1 | refine below_set ?_ GE591001.out | refine below_set ?_ GE591004.out) | exact HB.out)⟩⟩
end Go.Proofs.Ytmeggliapebkgaa.F
end
