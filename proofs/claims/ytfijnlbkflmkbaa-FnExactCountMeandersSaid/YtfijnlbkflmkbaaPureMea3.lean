/- Plain laws: the words without crossings among all words are those that the program makes, and so meanders are counted alike. -/
import Derived.Test.YtfijnlbkflmkbaaFgD
import Derived.Test.YtfijnlbkflmkbaaFx40
import Derived.Test.YtfijnlbkflmkbaaFx41
import Derived.Test.YtfijnlbkflmkbaaPureMea2
import Derived.KernelRfl
namespace Go.Proofs.Ytfijnlbkflmkbaa.Pure
open Go.RowKit Go.Proofs.Ytfijnlbkflmkbaa.F Go.Proofs.YtfijnlbkflmkbaaW.PrintWords Go.Proofs.YtfijnlbkflmkbaaW.PrintLast
set_option linter.unusedVariables false
set_option linter.unusedSimpArgs false

/-! ### what stands in the list of all words -/
def casts (m : Nat) : List Int := (List.range m).map fun i : Nat => (i : Int)
theorem casts_len (m : Nat) : (casts m).length = m := by simp [casts]
theorem casts_succ (m : Nat) : casts (m + 1) = casts m ++ [(m : Int)] := by unfold casts; rw [List.range_succ, List.map_append]; rfl
theorem casts_mem (m x : Nat) : (casts m).contains (x : Int) = decide (x < m) := by
  rw [Bool.eq_iff_iff, List.contains_iff_mem, decide_eq_true_eq]
  unfold casts
  rw [List.mem_map]
  constructor
  · rintro ⟨a, ha, e⟩
    have := List.mem_range.1 ha
    omega
  · exact fun h => ⟨x, List.mem_range.2 h, rfl⟩
theorem casts_idx : ∀ (m x : Nat), x < m → (casts m).idxOf (x : Int) = x
  | 0, x, h => absurd h (Nat.not_lt_zero _)
  | m + 1, x, h => by
    rw [casts_succ]
    by_cases e : x < m
    · rw [List.idxOf_append, if_pos (by have := casts_mem m x; rw [decide_eq_true e] at this; exact List.contains_iff_mem.1 this)]
      exact casts_idx m x e
    · have e2 : x = m := by omega
      subst e2
      rw [List.idxOf_append, if_neg (fun hm => by
        have h1 := casts_mem x x
        rw [List.contains_iff_mem.2 hm, decide_eq_false (by omega)] at h1
        exact absurd h1 (by simp)), casts_len]
      simp
structure Beg (n met : Nat) (b : List Int) : Prop where
  nrm : nrm b = b
  mets : mets b = casts met
  two : ∀ x : Int, b.count x ≤ 2
  le : met ≤ n
theorem Beg.nil (n : Nat) : Beg n 0 [] := ⟨rfl, rfl, fun _ => by simp, Nat.zero_le _⟩
theorem Beg.push {n met x : Nat} {b : List Int} (h : Beg n met b) (hx : x ≤ met) (hn : x < n) (hc : b.count (x : Int) < 2) : Beg n (max met (x + 1)) (b ++ [(x : Int)]) := by
  refine ⟨?_, ?_, fun y => ?_, by have := h.le; omega⟩
  · rw [nrm_snoc, h.nrm, h.mets, casts_mem, casts_len]
    by_cases e : x < met
    · rw [decide_eq_true e, if_pos rfl, casts_idx met x e]
    · rw [decide_eq_false e, if_neg (by simp), show met = x from by omega]
  · rw [mets_snoc, h.mets, casts_mem]
    by_cases e : x < met
    · rw [decide_eq_true e, if_pos rfl, show max met (x + 1) = met from by omega]
    · rw [decide_eq_false e, if_neg (by simp), show max met (x + 1) = met + 1 from by omega, casts_succ, show met = x from by omega]
  · rw [List.count_append, List.count_singleton]
    have := h.two y
    by_cases e : (x : Int) = y
    · subst e; simp; omega
    · rw [if_neg (by simpa using e)]; omega
theorem fill_beg (n : Nat) : ∀ (d : Nat) (b : List Int) (met : Nat), Beg n met b → ∀ w ∈ fillW n d b met, ∃ m t, Beg n m w ∧ w = b ++ t ∧ w.length = b.length + d
  | 0, b, met, h, w, hw => by
    rw [fillW, List.mem_singleton] at hw
    exact ⟨met, [], hw ▸ h, by rw [hw, List.append_nil], by rw [hw]; rfl⟩
  | d + 1, b, met, h, w, hw => by
    rw [fillW_succ] at hw
    obtain ⟨x, hx, hw⟩ := List.mem_flatMap.1 hw
    have hx := List.mem_range.1 hx
    unfold fillG at hw
    by_cases c : b.count (x : Int) < 2
    · rw [if_pos c] at hw
      obtain ⟨m, t, hb, rfl, hl⟩ := fill_beg n d _ _ (h.push (x := x) (by omega) (by omega) c) w hw
      refine ⟨m, (x : Int) :: t, hb, by rw [List.append_assoc]; rfl, ?_⟩
      simp only [List.length_append, List.length_cons, List.length_nil] at hl ⊢
      omega
    · rw [if_neg c] at hw; exact absurd hw (by simp)
def sumN (f : Nat → Nat) : Nat → Nat
  | 0 => 0
  | m + 1 => sumN f m + f m
theorem sumN_add (f g : Nat → Nat) : ∀ m, sumN (fun i => f i + g i) m = sumN f m + sumN g m
  | 0 => rfl
  | m + 1 => by rw [sumN, sumN, sumN, sumN_add f g m]; omega
theorem sumN_one (a : Nat) : ∀ m, sumN (fun i => if a = i then 1 else 0) m = if a < m then 1 else 0
  | 0 => rfl
  | m + 1 => by
    rw [sumN, sumN_one a m]
    by_cases h1 : a < m
    · rw [if_pos h1, if_neg (by omega), if_pos (by omega)]
    · by_cases h2 : a = m
      · rw [if_neg h1, if_pos h2, if_pos (by omega)]
      · rw [if_neg h1, if_neg h2, if_neg (by omega)]
theorem sumN_congr {f g : Nat → Nat} : ∀ m, (∀ i, i < m → f i = g i) → sumN f m = sumN g m
  | 0, _ => rfl
  | m + 1, h => by rw [sumN, sumN, sumN_congr m (fun i hi => h i (by omega)), h m (by omega)]
theorem sumN_le (f : Nat → Nat) (h2 : ∀ i, f i ≤ 2) : ∀ m, sumN f m ≤ 2 * m ∧ (sumN f m = 2 * m → ∀ i, i < m → f i = 2)
  | 0 => ⟨Nat.le_refl _, fun _ i hi => absurd hi (Nat.not_lt_zero _)⟩
  | m + 1 => by
    have ih := sumN_le f h2 m
    have hm := h2 m
    refine ⟨by rw [sumN]; omega, fun h i hi => ?_⟩
    rw [sumN] at h
    by_cases e : i = m
    · rw [e]; omega
    · exact ih.2 (by omega) i (by omega)
theorem cnt_sum (m : Nat) : ∀ w : List Int, (∀ x ∈ w, ∃ i : Nat, i < m ∧ x = (i : Int)) → w.length = sumN (fun i => w.count (i : Int)) m
  | [], _ => by
    have : ∀ m, sumN (fun i => ([] : List Int).count (i : Int)) m = 0 := by
      intro m
      induction m with
      | zero => rfl
      | succ m ih => rw [sumN, ih]; simp
    rw [this]; rfl
  | a :: w, h => by
    obtain ⟨i, hi, rfl⟩ := h a List.mem_cons_self
    have ih := cnt_sum m w (fun x hx => h x (List.mem_cons_of_mem _ hx))
    have e : sumN (fun j => ((i : Int) :: w).count (j : Int)) m = sumN (fun j => w.count (j : Int) + if i = j then 1 else 0) m := sumN_congr m (fun j _ => by
      rw [List.count_cons]
      by_cases c : i = j
      · subst c; simp
      · rw [if_neg (by rw [beq_iff_eq]; omega), if_neg c])
    rw [e, sumN_add, sumN_one, if_pos hi, ← ih, List.length_cons]
theorem beg_word {n m : Nat} {w : List Int} (h : Beg n m w) (hl : w.length = 2 * n) (hn : n ≤ 6) : Word w := by
  have hmem : ∀ x ∈ w, ∃ i : Nat, i < m ∧ x = (i : Int) := fun x hx => by
    have h1 := (nrm_mem w x).1 (by rw [h.nrm]; exact hx)
    rw [h.mets, casts_len] at h1
    exact h1
  have hs := cnt_sum m w hmem
  have hle := sumN_le (fun i => w.count (i : Int)) (fun i => h.two _) m
  have hm := h.le
  refine ⟨by omega, fun x hx => ?_, h.nrm⟩
  obtain ⟨i, hi, rfl⟩ := hmem x hx
  exact hle.2 (by omega) i hi

/-! ### a begin that has a crossing in it -/
def plainB (w : List Int) : Bool := plainFrom w 0 (w.length / 2)
def badStep (n : Nat) (b : List Int) (x : Nat) : Bool := b.count (x : Int) == 1 && (List.range n).any fun y => b.count (y : Int) == 1 && decide (b.idxOf (x : Int) < b.idxOf (y : Int))
theorem not_plain {w : List Int} {x y : Nat} (hx : x < w.length / 2) (hy : y < w.length / 2) (h : crossB w x y = true) : plainB w = false := by
  rw [Bool.eq_false_iff]
  intro hp
  unfold plainB plainFrom at hp
  have h1 := List.all_eq_true.1 hp x (List.mem_range'_1.2 ⟨Nat.zero_le _, by omega⟩)
  unfold rowPlain at h1
  have h2 := List.all_eq_true.1 h1 y (List.mem_range'_1.2 ⟨Nat.zero_le _, by omega⟩)
  rw [h] at h2
  exact absurd h2 (by simp)
theorem bad_cross {w b t : List Int} {x : Nat} (hw : Word w) (he : w = (b ++ [(x : Int)]) ++ t) (hx : x < w.length / 2) (h : badStep (w.length / 2) b x = true) : plainB w = false := by
  unfold badStep at h
  rw [Bool.and_eq_true, beq_iff_eq, List.any_eq_true] at h
  obtain ⟨hbx, y, hy, hyy⟩ := h
  rw [Bool.and_eq_true, beq_iff_eq, decide_eq_true_eq] at hyy
  obtain ⟨hby, hlt⟩ := hyy
  have hy := List.mem_range.1 hy
  have hxb : (x : Int) ∈ b := List.count_pos_iff.1 (by omega)
  have hyb : (y : Int) ∈ b := List.count_pos_iff.1 (by omega)
  have hpx : pA w x = b.idxOf (x : Int) := by unfold pA; rw [he, List.append_assoc, List.idxOf_append, if_pos hxb]
  have hpy : pA w y = b.idxOf (y : Int) := by unfold pA; rw [he, List.append_assoc, List.idxOf_append, if_pos hyb]
  have hxl := List.idxOf_lt_length_of_mem hxb
  have hyl := List.idxOf_lt_length_of_mem hyb
  have hlen : w.length = b.length + 1 + t.length := by rw [he, List.length_append, List.length_append, List.length_singleton]
  have hg : w.getD b.length 0 = (x : Int) := by
    rw [he, List.append_assoc, List.getD_eq_getElem?_getD, List.getElem?_append_right (Nat.le_refl _), Nat.sub_self]; rfl
  have hBx : pB w x = b.length := by
    rcases (getD_places (hw.count hx) b.length (by omega)).1 hg with e | e
    · omega
    · exact e.symm
  have hne : x ≠ y := fun e => by subst e; omega
  have hBy : b.length + 1 ≤ pB w y := by
    have h1 := count_take (hw.count hy) (b.length + 1) (by omega)
    have h2 : w.take (b.length + 1) = b ++ [(x : Int)] := by
      rw [he, List.take_append, List.take_of_length_le (by simp)]
      simp
    rw [h2, List.count_append, List.count_singleton, if_neg (by rw [beq_iff_eq]; omega), hby, if_pos (by omega)] at h1
    by_cases c : pB w y < b.length + 1
    · rw [if_pos c] at h1; omega
    · omega
  refine not_plain hx hy ?_
  unfold crossB
  rw [show (x == y) = false from by simpa using hne, decide_eq_true (show pA w x < pA w y by omega), decide_eq_true (show pA w y < pB w x by omega), decide_eq_false (show ¬ pB w y < pB w x by omega)]
  simp
/-- All words without such begins. -/
def fillP (n : Nat) : Nat → List Int → Nat → List (List Int)
  | 0, b, _ => [b]
  | d + 1, b, met => (List.range (min (met + 1) n)).flatMap fun (x : Nat) => if b.count (x : Int) < 2 && !badStep n b x then fillP n d (b ++ [(x : Int)]) (max met (x + 1)) else []
theorem filter_flat {α β : Type} (p : β → Bool) (g : α → List β) : ∀ l : List α, (l.flatMap g).filter p = l.flatMap fun x => (g x).filter p
  | [] => rfl
  | a :: l => by rw [List.flatMap_cons, List.filter_append, filter_flat p g l, List.flatMap_cons]
theorem flat_congr {α β : Type} {f g : α → List β} : ∀ l : List α, (∀ x ∈ l, f x = g x) → l.flatMap f = l.flatMap g
  | [], _ => rfl
  | a :: l, h => by rw [List.flatMap_cons, List.flatMap_cons, h a List.mem_cons_self, flat_congr l (fun x hx => h x (List.mem_cons_of_mem _ hx))]
theorem prune (n : Nat) (hn : n ≤ 6) : ∀ (d : Nat) (b : List Int) (met : Nat), Beg n met b → b.length + d = 2 * n → (fillW n d b met).filter plainB = (fillP n d b met).filter plainB
  | 0, b, met, _, _ => rfl
  | d + 1, b, met, h, hl => by
    rw [fillW_succ, fillP, filter_flat, filter_flat]
    refine flat_congr _ (fun x hx => ?_)
    have hx := List.mem_range.1 hx
    unfold fillG
    by_cases c : b.count (x : Int) < 2
    · have hb := h.push (x := x) (by omega) (by omega) c
      rw [if_pos c]
      by_cases g : badStep n b x = true
      · rw [g, if_neg (by simp)]
        rw [List.filter_nil, List.filter_eq_nil_iff]
        intro w hw
        obtain ⟨m, t, hbw, he, hwl⟩ := fill_beg n d _ _ hb w hw
        have hl2 : w.length = 2 * n := by rw [hwl, List.length_append, List.length_singleton]; omega
        have hW := beg_word hbw hl2 hn
        rw [bad_cross hW he (by omega) (by rw [show w.length / 2 = n from by omega]; exact g)]
        simp
      · rw [show badStep n b x = false from by simpa using g, decide_eq_true c, if_pos (by simp)]
        exact prune n hn d _ _ hb (by rw [List.length_append, List.length_singleton]; omega)
    · rw [if_neg c, if_neg (by simp [c])]
def meetOk (n : Nat) : Bool := ((fillP n (2 * n) [] 0).filter plainB).isPerm (flatF 7 n)
theorem meetOk_all : (List.range 7).all meetOk = true := by kernel_rfl
theorem meet {n : Nat} (hn : n ≤ 6) : ((fillW n (2 * n) [] 0).filter plainB).Perm (flatF 7 n) := by
  have h := List.all_eq_true.1 meetOk_all n (List.mem_range.2 (by omega))
  rw [prune n hn (2 * n) [] 0 (Beg.nil n) (by simp)]
  exact List.isPerm_iff.1 h
theorem all_words {n : Nat} (hn : n ≤ 6) : ∀ w ∈ fillW n (2 * n) [] 0, Word w ∧ w.length = 2 * n := fun w hw => by
  obtain ⟨m, t, hb, _, hl⟩ := fill_beg n (2 * n) [] 0 (Beg.nil n) w hw
  rw [List.length_nil, Nat.zero_add] at hl
  exact ⟨beg_word hb hl hn, hl⟩
/-- The reference gathers the words without crossings. -/
theorem gather_ev (all : List (List Int)) (m : Nat) (hall : ∀ w ∈ all, Word w ∧ w.length = m) (hlen : all.length ≤ 2176782336) (r : Int × Int) (hr : Ev (fun k => spec_CountMeanders.l1 k (all.filter plainB) 0 0) r) :
    Ev (fun k => spec_CountMeanders.l0 k all [] 0 0) r := by
  have key : ∀ d i, i + d = all.length → Ev (fun k => spec_CountMeanders.l0 k all ((all.take i).filter plainB) 0 (i : Int)) r := by
    intro d
    induction d with
    | zero =>
      intro i hi
      refine Ev_succ ?_
      simp only [spec_CountMeanders.l0]
      rw [show all.take i = all from List.take_of_length_le (by omega)]
      exact Ev.congr (fun k => if_neg (by omega)) hr
    | succ d ih =>
      intro i hi
      have hil : i < all.length := by omega
      have hh := ih (i + 1) (by omega)
      rw [List.take_succ_eq_append_getElem hil, List.filter_append] at hh
      have hw := hall all[i] (List.getElem_mem _)
      have hfl : ((all.take i).filter plainB).length ≤ all.length := Nat.le_trans (List.length_filter_le _ _) (by rw [List.length_take]; omega)
      refine Ev_succ ?_
      simp only [spec_CountMeanders.l0]
      refine Ev.congr (fun k => if_pos (by omega)) (Ev.congr (fun k => if_pos (by omega)) ?_)
      rw [rdL1, show all.getD i [] = all[i] from by rw [List.getD_eq_getElem?_getD, List.getElem?_eq_getElem hil]; rfl]
      refine Ev.bind (plain_ev all[i] hw.1) ?_
      rw [wS (n := i) (by omega)]
      by_cases c : plainB all[i] = true
      · refine Ev.congr (fun k => if_pos c) (Ev.congr (fun k => if_pos (by omega)) ?_)
        rw [List.filter_cons_of_pos c, List.filter_nil] at hh
        exact hh
      · refine Ev.congr (fun k => if_neg c) ?_
        rw [List.filter_cons_of_neg c, List.filter_nil, List.append_nil] at hh
        exact hh
  have := key all.length 0 (by omega)
  rw [List.take_zero, List.filter_nil] at this
  exact this
theorem countMeanders_both (a0 : Int) : ∃ v : Int × Int, Ev (fun k => spec_CountMeanders.f k a0) v ∧ Ev (fun k => impl_CountMeanders.f k a0) v := by
  by_cases h : 0 ≤ a0 ∧ a0 ≤ 6
  · obtain ⟨n, rfl⟩ := Int.eq_ofNat_of_zero_le h.1
    have hn : n ≤ 6 := by omega
    have hm := meet hn
    have hA := all_words hn
    have hP : ∀ w ∈ (fillW n (2 * n) [] 0).filter plainB, Word w ∧ w.length = 2 * n := fun w hw => hA w (List.mem_filter.1 hw).1
    have hF : ∀ w ∈ flatF 7 n, Word w ∧ w.length = 2 * n := fun w hw => hP w (hm.mem_iff.2 hw)
    have hFl := (flat_fine (n := n) (f := 7) hn (by omega)).1
    have hlen := fillW_len n hn (2 * n) [] 0
    have hp6 : 6 ^ (2 * n) ≤ 2176782336 := Nat.le_trans (Nat.pow_le_pow_right (n := 6) (by decide) (show 2 * n ≤ 12 by omega)) (by decide)
    refine ⟨(((totC (flatF 7 n) (flatF 7 n) : Nat) : Int), (0 : Int)), ?_, ?_⟩
    · unfold spec_CountMeanders.f
      rw [spec_in_f, decide_eq_true h]
      refine Ev.congr (fun k => (Option.bind_some _ _).trans (if_pos rfl)) ?_
      refine Ev.bind (a := fillW n (2 * n) [] 0) (by unfold spec_l01All.f; exact Ev.bind (fill_ev n hn (2 * n) [] 0 (by simp) (by omega)) (Ev.now _)) ?_
      refine gather_ev _ (2 * n) hA (by omega) _ ?_
      rw [← totC_perm hm]
      exact spec_cnt _ (2 * n) hP (by rw [hm.length_eq]; omega)
    · unfold impl_CountMeanders.f
      rw [in_f, decide_eq_true h]
      refine Ev.congr (fun k => (Option.bind_some _ _).trans (if_pos rfl)) ?_
      unfold impl_flatWords.f
      rw [if_pos h, Int.toNat_natCast]
      refine Ev.congr (fun k => Option.bind_some _ _) ?_
      exact impl_cnt _ (2 * n) hF (by omega)
  · refine ⟨(0, 2), ?_, ?_⟩
    · unfold spec_CountMeanders.f
      rw [spec_in_f, decide_eq_false h]
      exact Ev.congr (fun k => (Option.bind_some _ _).trans (if_neg (by simp))) (Ev.now _)
    · unfold impl_CountMeanders.f
      rw [in_f, decide_eq_false h]
      exact Ev.congr (fun k => (Option.bind_some _ _).trans (if_neg (by simp))) (Ev.now _)
end Go.Proofs.Ytfijnlbkflmkbaa.Pure
