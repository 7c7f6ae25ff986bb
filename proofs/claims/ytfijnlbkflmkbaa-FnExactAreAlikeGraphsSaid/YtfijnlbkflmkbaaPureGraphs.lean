/- Plain laws: what AreAlikeGraphs comes to on both sides. -/
import Derived.Test.YtfijnlbkflmkbaaFx126
import Derived.Test.YtfijnlbkflmkbaaFx65
import Derived.Test.YtfijnlbkflmkbaaFx66
import Derived.Test.YtfijnlbkflmkbaaPureIso
namespace Go.Proofs.Ytfijnlbkflmkbaa.Pure
open Go.RowKit Go.Proofs.Ytfijnlbkflmkbaa.F Go.Proofs.Ytfijnlbkflmkbaa.Mem Go.Proofs.YtfijnlbkflmkbaaW.PrintWords Go.Proofs.YtfijnlbkflmkbaaW.PrintLast
set_option linter.unusedVariables false
set_option linter.unusedSimpArgs false

def fitsTo (X Y : Nat → Nat → Bool) (l : List Nat) (x : Nat) : Nat → Bool
  | 0 => true
  | i + 1 => fitsTo X Y l x i && (!(l.getD i 0 == x) && (X l.length i == Y x (l.getD i 0)))
def mapsW (X Y : Nat → Nat → Bool) (n : Nat) : Nat → List Nat → Bool
  | 0, _ => true
  | d + 1, l => (List.range n).any fun x => fitsTo X Y l x l.length && mapsW X Y n d (l ++ [x])
theorem fitsTo_iff (X Y : Nat → Nat → Bool) (l : List Nat) (x : Nat) : ∀ m, fitsTo X Y l x m = true ↔ ∀ i, i < m → l.getD i 0 ≠ x ∧ X l.length i = Y x (l.getD i 0)
  | 0 => ⟨fun _ i hi => absurd hi (by omega), fun _ => rfl⟩
  | m + 1 => by
    have ih := fitsTo_iff X Y l x m
    rw [fitsTo, Bool.and_eq_true, ih]
    constructor
    · rintro ⟨h1, h2⟩ i hi
      by_cases e : i = m
      · subst e
        simpa using h2
      · exact h1 i (by omega)
    · intro h
      refine ⟨fun i hi => h i (by omega), ?_⟩
      simpa using h m (by omega)
theorem fits_iff {X Y : Nat → Nat → Bool} {l : List Nat} {x : Nat} (h : codeOf Y l = codeOf X (List.range l.length)) : fitsTo X Y l x l.length = true ↔ l.contains x = false ∧ codeOf Y (l ++ [x]) = codeOf X (List.range (l ++ [x]).length) := by
  rw [fitsTo_iff, List.length_append, List.length_singleton, List.range_succ, codeOf_snoc, codeOf_snoc, h, List.append_right_inj, entsOf_eq _ _ _ _ _ _ (by rw [List.length_range])]
  constructor
  · intro g
    refine ⟨?_, fun k hk => ?_⟩
    · rw [Bool.eq_false_iff]
      intro hc
      have hm := List.contains_iff_mem.1 hc
      exact (g _ (List.idxOf_lt_length_of_mem hm)).1 (getD_idx hm)
    · rw [range_getD hk]; exact (g k hk).2.symm
  · rintro ⟨h1, h2⟩ i hi
    refine ⟨fun e => ?_, ?_⟩
    · rw [List.contains_iff_mem.2 (e ▸ getD_memN hi)] at h1; exact absurd h1 (by simp)
    · have := h2 i hi
      rw [range_getD hi] at this; exact this.symm
theorem take_code {X Y : Nat → Nat → Bool} {a t : List Nat} {n : Nat} (hn : (a ++ t).length = n) (h : codeOf Y (a ++ t) = codeOf X (List.range n)) : codeOf Y a = codeOf X (List.range a.length) := by
  have g := (codeOf_eq Y X _ _ (by rw [hn, List.length_range])).1 h
  refine (codeOf_eq Y X _ _ (by rw [List.length_range])).2 fun i k hk hi => ?_
  have := g i k hk (by rw [List.length_append]; omega)
  have hl : a.length + t.length = n := by rw [← hn, List.length_append]
  have e : ∀ j, j < a.length → (a ++ t).getD j 0 = a.getD j 0 := fun j hj => by
    rw [List.getD_eq_getElem?_getD, List.getElem?_append_left hj, ← List.getD_eq_getElem?_getD]
  rw [e i hi, e k (by omega), range_getD (by omega), range_getD (by omega)] at this
  rw [range_getD hi, range_getD (by omega)]
  exact this
theorem mapsW_iff (X Y : Nat → Nat → Bool) (n : Nat) : ∀ (d : Nat) (l : List Nat), l.length + d = n → codeOf Y l = codeOf X (List.range l.length) → (mapsW X Y n d l = true ↔ ∃ o ∈ ordersW n d l, codeOf Y o = codeOf X (List.range n))
  | 0, l, hl, h => by
    rw [ordersW]
    refine ⟨fun _ => ⟨l, List.mem_singleton.2 rfl, ?_⟩, fun _ => rfl⟩
    rw [h, show l.length = n by omega]
  | d + 1, l, hl, h => by
    have ih := mapsW_iff X Y n d
    have hlx : ∀ x, (l ++ [x]).length = l.length + 1 := fun x => by rw [List.length_append, List.length_singleton]
    rw [mapsW, ordersW, List.any_eq_true]
    constructor
    · rintro ⟨x, hx, hb⟩
      rw [Bool.and_eq_true] at hb
      obtain ⟨h1, h2⟩ := (fits_iff h).1 hb.1
      obtain ⟨o, ho, e⟩ := (ih (l ++ [x]) (by rw [hlx]; omega) h2).1 hb.2
      exact ⟨o, List.mem_flatMap.2 ⟨x, hx, by rw [h1, if_neg (by simp)]; exact ho⟩, e⟩
    · rintro ⟨o, ho, e⟩
      obtain ⟨x, hx, ho⟩ := List.mem_flatMap.1 ho
      split at ho
      · exact absurd ho (by simp)
      · rename_i hc
        obtain ⟨t, et⟩ := orders_pre n d _ o ho
        have hln : o.length = n := by
          have : ∀ (d : Nat) (order o : List Nat), o ∈ ordersW n d order → o.length = order.length + d := by
            intro d
            induction d with
            | zero => intro order o ho; rw [ordersW, List.mem_singleton] at ho; rw [ho]; rfl
            | succ d ihd =>
              intro order o ho
              rw [ordersW, List.mem_flatMap] at ho
              obtain ⟨y, hy, ho⟩ := ho
              split at ho
              · exact absurd ho (by simp)
              · have := ihd _ _ ho
                rw [List.length_append, List.length_singleton] at this; omega
          have := this d _ o ho
          rw [hlx] at this; omega
        subst et
        have h2 := take_code hln e
        have hf := (fits_iff h).2 ⟨by simpa using hc, h2⟩
        exact ⟨x, hx, by rw [hf, Bool.true_and]; exact (ih (l ++ [x]) (by rw [hlx]; omega) h2).2 ⟨_, ho, e⟩⟩
theorem rd_rowsG {w : List Int} {i : Nat} (hi : i < w.length / 2) : rd_L1 (rowsOf w) (i : Int) = rowTo w i (w.length / 2) := by
  unfold rd_L1; rw [Int.toNat_natCast]; exact rowsOf_get hi
theorem ent_eq (a b : List Int) (i k s t : Nat) : (ent a i k == ent b s t) = (crossB a i k == crossB b s t) := by
  unfold ent
  cases crossB a i k <;> cases crossB b s t <;> rfl
/-- One image tried. -/
theorem maps_l1 (a b : List Int) (n : Nat) (hn : n = a.length / 2) (hb : n = b.length / 2) (hn6 : n ≤ 6) (l : List Nat) (hl : l.length < n) (hm : ∀ y ∈ l, y < n) (x : Nat) (hx : x < n) (r : Bool)
    (hr : Ev (fun k => if fitsTo (crossB a) (crossB b) l x l.length = true then ((spec_l01Own.f (ints l)).bind fun t => (if t.length < 17592186044416 then ((spec_l10Maps.f k (rowsOf a) (rowsOf b) (t ++ [(x : Int)])).bind fun u => (if u = true then (some true) else (spec_l10Maps.l0 k (rowsOf a) (rowsOf b) (ints l) (l.length : Int) (wrap64 ((x : Int) + 1))))) else (none))) else (spec_l10Maps.l0 k (rowsOf a) (rowsOf b) (ints l) (l.length : Int) (wrap64 ((x : Int) + 1)))) r) :
    Ev (fun k => spec_l10Maps.l1 k (rowsOf a) (rowsOf b) (ints l) (l.length : Int) (x : Int) true 0) r := by
  have hla : (rowsOf a).length = n := by rw [hn]; exact rowsTo_len a _
  have hlb : (rowsOf b).length = n := by rw [hb]; exact rowsTo_len b _
  have hil := ints_len l
  have hrd : ∀ i : Nat, i < l.length → rd (ints l) (i : Int) = ((l.getD i 0 : Nat) : Int) := fun i hi => by rw [rdN]; exact ints_getD l i hi
  have key : ∀ q i, i + q = l.length → Ev (fun k => spec_l10Maps.l1 k (rowsOf a) (rowsOf b) (ints l) (l.length : Int) (x : Int) (fitsTo (crossB a) (crossB b) l x i) (i : Int)) r := by
    intro q
    induction q with
    | zero =>
      intro i hi
      obtain rfl : i = l.length := by omega
      refine Ev_succ ?_
      simp only [spec_l10Maps.l1]
      exact Ev.congr (fun k => if_neg (by omega)) hr
    | succ q ihq =>
      intro i hi
      have hh := ihq (i + 1) (by omega)
      have c1 : l.getD i 0 < n := hm _ (getD_memN (by omega))
      refine Ev_succ ?_
      simp only [spec_l10Maps.l1]
      refine Ev.congr (fun k => if_pos (by omega)) ?_
      rw [hrd i (by omega), rd_rowsG (show l.length < _ by omega), rd_rowsG (show x < _ by omega), rowTo_len, rowTo_len, rdN, rowTo_get (by omega), rdN, rowTo_get (by omega), ent_eq, wS (by omega)]
      by_cases hf : fitsTo (crossB a) (crossB b) l x i = true
      · refine Ev.congr (fun k => if_pos hf) (Ev.congr (fun k => if_pos (by omega)) (Ev.congr (fun k => if_pos (by omega)) ?_))
        by_cases e : l.getD i 0 = x
        · refine Ev.congr (fun k => if_pos (by omega)) ?_
          rw [fitsTo, e, beq_self_eq_true, Bool.not_true, Bool.false_and, Bool.and_false] at hh
          exact hh
        · rw [fitsTo, hf, Bool.true_and, show (l.getD i 0 == x) = false from by simpa using e, Bool.not_false, Bool.true_and] at hh
          refine Ev.congr (fun k => if_neg (by omega)) ?_
          refine Ev.congr (fun k => if_pos (by omega)) (Ev.congr (fun k => if_pos (by omega)) (Ev.congr (fun k => if_pos (by omega)) (Ev.congr (fun k => if_pos (by omega)) (Ev.congr (fun k => if_pos (by omega)) (Ev.congr (fun k => if_pos (by omega)) (Ev.congr (fun k => if_pos (by omega)) ?_))))))
          exact hh
      · rw [fitsTo, show fitsTo (crossB a) (crossB b) l x i = false from by simpa using hf, Bool.false_and] at hh
        exact Ev.congr (fun k => if_neg hf) hh
  exact key l.length 0 (by omega)
theorem maps_ev (a b : List Int) (n : Nat) (hn : n = a.length / 2) (hb : n = b.length / 2) (hn6 : n ≤ 6) : ∀ (d : Nat) (l : List Nat), l.length + d = n → (∀ y ∈ l, y < n) → Ev (fun k => spec_l10Maps.f k (rowsOf a) (rowsOf b) (ints l)) (mapsW (crossB a) (crossB b) n d l) := by
  have hla : (rowsOf a).length = n := by rw [hn]; exact rowsTo_len a _
  intro d
  induction d with
  | zero =>
    intro l hl hm
    have hil := ints_len l
    refine Ev_succ ?_
    simp only [spec_l10Maps.f]
    exact Ev.congr (fun k => if_pos (by omega)) (Ev.now _)
  | succ d ih =>
    intro l hl hm
    have hil := ints_len l
    refine Ev_succ ?_
    simp only [spec_l10Maps.f]
    refine Ev.congr (fun k => if_neg (by omega)) ?_
    rw [hil, mapsW, List.range_eq_range']
    have key : ∀ p j, j + p = n → Ev (fun k => spec_l10Maps.l0 k (rowsOf a) (rowsOf b) (ints l) (l.length : Int) (j : Int)) ((List.range' j p).any fun x => fitsTo (crossB a) (crossB b) l x l.length && mapsW (crossB a) (crossB b) n d (l ++ [x])) := by
      intro p
      induction p with
      | zero =>
        intro j hj
        refine Ev_succ ?_
        simp only [spec_l10Maps.l0]
        exact Ev.congr (fun k => if_neg (by omega)) (Ev.now _)
      | succ p ihp =>
        intro j hj
        have hj2 := ihp (j + 1) (by omega)
        refine Ev_succ ?_
        simp only [spec_l10Maps.l0]
        refine Ev.congr (fun k => if_pos (by omega)) ?_
        refine maps_l1 a b n hn hb hn6 l (by omega) hm j (by omega) _ ?_
        rw [List.range'_succ, List.any_cons, wS (by omega)]
        by_cases hf : fitsTo (crossB a) (crossB b) l j l.length = true
        · refine Ev.congr (fun k => if_pos hf) ?_
          rw [hf, Bool.true_and, own_f _ (by omega)]
          refine Ev.congr (fun k => (Option.bind_some _ _).trans (if_pos (by omega))) ?_
          rw [show ints l ++ [(j : Int)] = ints (l ++ [j]) from (ints_app l [j]).symm]
          refine Ev.bind (ih (l ++ [j]) (by rw [List.length_append, List.length_singleton]; omega) (nats_mem hm (by omega))) ?_
          by_cases hw : mapsW (crossB a) (crossB b) n d (l ++ [j]) = true
          · rw [hw, Bool.true_or]
            exact Ev.congr (fun k => if_pos rfl) (Ev.now _)
          · rw [show mapsW (crossB a) (crossB b) n d (l ++ [j]) = false from by simpa using hw, Bool.false_or]
            exact Ev.congr (fun k => if_neg (by simp)) hj2
        · refine Ev.congr (fun k => if_neg hf) ?_
          rw [show fitsTo (crossB a) (crossB b) l j l.length = false from by simpa using hf, Bool.false_and, Bool.false_or]
          exact hj2
    exact key n 0 (by omega)
theorem cross_symG {w : List Int} (hw : Word w) {i k : Nat} (hi : i < w.length / 2) (hk : k < w.length / 2) : crossB w i k = crossB w k i := by
  by_cases e : i = k
  · rw [e]
  · have hp := places_ne hw e hi hk
    have li := places_lt (hw.count hi)
    have lk := places_lt (hw.count hk)
    unfold crossB
    rw [show (i == k) = false from by simpa using e, show (k == i) = false from by simpa using Ne.symm e]
    by_cases c1 : pA w i < pA w k <;> by_cases c2 : pA w k < pB w i <;> by_cases c3 : pA w i < pB w k <;> by_cases c4 : pB w k < pB w i <;>
      simp only [c1, c2, c3, c4, show (pA w k < pA w i) = ¬ (pA w i < pA w k) from by rw [eq_iff_iff]; omega, show (pB w i < pA w k) = ¬ (pA w k < pB w i) from by rw [eq_iff_iff]; omega, show (pB w k < pA w i) = ¬ (pA w i < pB w k) from by rw [eq_iff_iff]; omega, show (pB w i < pB w k) = ¬ (pB w k < pB w i) from by rw [eq_iff_iff]; omega, decide_true, decide_false, not_true_eq_false, not_false_eq_true, Bool.true_and, Bool.false_and, Bool.and_true, Bool.and_false, bne_self_eq_false, Bool.not_false] <;> first | rfl | decide | (exfalso; omega)
theorem maps_same {a b : List Int} (ha : Word a) (hb : Word b) (hl : a.length = b.length) : mapsW (crossB a) (crossB b) (a.length / 2) (a.length / 2) [] = decide (codeV a = codeV b) := by
  obtain ⟨n, hn⟩ : ∃ n, n = a.length / 2 := ⟨_, rfl⟩
  have hbn : n = b.length / 2 := by rw [hn, hl]
  rw [← hn]
  have h1 := mapsW_iff (crossB a) (crossB b) n n [] (by simp) rfl
  have h2 := iso_iff a b n hn hbn (fun i k hi hk => cross_symG ha (by omega) (by omega)) (fun i k hi hk => cross_symG hb (by omega) (by omega))
  rw [Bool.eq_iff_iff, decide_eq_true_iff, h1, ← h2]
  exact ⟨fun ⟨o, ho, e⟩ => ⟨o, ord_iff.1 ho, e.symm⟩, fun ⟨o, ho, e⟩ => ⟨o, ord_iff.2 ho, e.symm⟩⟩
theorem specGra_ev (a b : List Int) : Ev (fun k => spec_AreAlikeGraphs.f k a b) (alkV a b) := by
  unfold spec_AreAlikeGraphs.f alkV
  have hj : ∀ x, x = true → Ev (fun k => spec_AreAlikeGraphs.j0 k a b x) (false, 1) := fun x hx => by
    subst hx
    refine Ev.step (f := fun _ => some (false, 1)) (fun k => ?_) (Ev.now _)
    simp only [spec_AreAlikeGraphs.j0, if_true]
  refine Ev.bind (is_ev a) ?_
  by_cases h1 : isW a = true
  · refine Ev.congr (f := fun k => (spec_l01Is.f k b).bind fun t => spec_AreAlikeGraphs.j0 k a b (!t)) (fun k => if_pos h1) ?_
    refine Ev.bind (is_ev b) ?_
    by_cases h2 : isW b = true
    · rw [h2, if_pos ⟨h1, rfl⟩]
      have wa := (isW_iff a).1 h1
      have wb := (isW_iff b).1 h2
      have hle := wa.le
      refine Ev_succ ?_
      simp only [spec_AreAlikeGraphs.j0, Bool.not_true, Bool.false_eq_true, if_false]
      by_cases e : a.length = b.length
      · refine Ev.congr (fun k => if_pos (by omega)) ?_
        refine Ev.bind (srows_ev a wa) ?_
        refine Ev.bind (srows_ev b wb) ?_
        refine Ev.bind (maps_ev a b (a.length / 2) rfl (by rw [e]) (by omega) (a.length / 2) [] (by simp) (by simp)) ?_
        rw [maps_same wa wb e, show decide (a.length = b.length ∧ codeV a = codeV b) = decide (codeV a = codeV b) from by simp [e]]
        exact Ev.now _
      · rw [decide_eq_false (fun h => e h.1)]
        exact Ev.congr (fun k => if_neg (by omega)) (Ev.now _)
    · rw [if_neg (fun h => h2 h.2)]
      exact hj _ (by simpa using h2)
  · rw [if_neg (fun h => h1 h.1)]
    exact Ev.congr (fun k => if_neg h1) (hj true rfl)
theorem areAlikeGraphs_both (a b : List Int) (ha : ∀ x ∈ a, (Lit.int .i64 x).wf = true) (hb : ∀ x ∈ b, (Lit.int .i64 x).wf = true) : ∃ v : Bool × Int, Ev (fun k => spec_AreAlikeGraphs.f k a b) v ∧ Ev (fun k => impl_AreAlikeGraphs.f k a b) v :=
  ⟨alkV a b, specGra_ev a b, by unfold impl_AreAlikeGraphs.f; exact Ev.bind (implAlk_ev a b ha hb) (Ev.now _)⟩
end Go.Proofs.Ytfijnlbkflmkbaa.Pure
