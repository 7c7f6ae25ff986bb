/- Plain laws: both sides count the curves of two words alike. -/
import Derived.Test.YtfijnlbkflmkbaaFgD
import Derived.Test.YtfijnlbkflmkbaaFx134
import Derived.Test.YtfijnlbkflmkbaaFx38
import Derived.Test.YtfijnlbkflmkbaaFx39
import Derived.Test.YtfijnlbkflmkbaaFx94
import Derived.Test.YtfijnlbkflmkbaaPureE
namespace Go.Proofs.Ytfijnlbkflmkbaa.Pure
open Go.RowKit Go.Proofs.Ytfijnlbkflmkbaa.F Go.Proofs.YtfijnlbkflmkbaaW.PrintWords Go.Proofs.YtfijnlbkflmkbaaW.PrintLast

/-- The other place of the chord at a place. -/
def oth (w : List Int) (t : Nat) : Nat := pA w (w.getD t 0) + pB w (w.getD t 0) - t
theorem chord_at {w : List Int} (hw : Word w) {t : Nat} (ht : t < w.length) : ∃ i : Nat, i < w.length / 2 ∧ w.getD t 0 = (i : Int) ∧ (t = pA w i ∨ t = pB w i) := by
  obtain ⟨i, hi, e⟩ := (hw.mem _).1 (getD_mem ht)
  exact ⟨i, hi, e, (getD_places (hw.count hi) t ht).1 e⟩
theorem oth_lt {w : List Int} (hw : Word w) {t : Nat} (ht : t < w.length) : oth w t < w.length := by
  obtain ⟨i, hi, e, h⟩ := chord_at hw ht
  have hp := places_lt (hw.count hi)
  unfold oth
  rw [e]
  rcases h with h | h <;> omega
theorem other_ev (w : List Int) (hw : Word w) (t : Nat) (ht : t < w.length) : Ev (fun k => spec_l09Other.f k w (t : Int)) (oth w t : Int) := by
  have hle := hw.le
  obtain ⟨i, hi, e, h⟩ := chord_at hw ht
  have hp := places_lt (hw.count hi)
  unfold spec_l09Other.f
  refine Ev.congr (fun k => if_pos (by omega)) ?_
  refine Ev.congr (fun k => if_pos (by omega)) ?_
  refine Ev.bind (a := ((pA w i : Int), (pB w i : Int))) (Ev.congr (fun k => by rw [rdN, e]) (places_ev w i (by omega) (hw.count hi))) ?_
  refine Ev.congr (fun k => ?_) (Ev.now _)
  show some (wrap64 (wrap64 ((pA w i : Int) + (pB w i : Int)) - (t : Int))) = _
  unfold oth
  rw [e]
  congr 1
  unfold wrap64
  rcases h with h | h <;> omega

/-! ### mates -/
theorem getD_set {l : List Int} {i j : Nat} {v : Int} (hi : i < l.length) : (l.set i v).getD j 0 = if j = i then v else l.getD j 0 := by
  rw [List.getD_eq_getElem?_getD, List.getElem?_set, List.getD_eq_getElem?_getD]
  by_cases e : i = j
  · subst e; rw [if_pos rfl, if_pos rfl, if_pos hi]; rfl
  · rw [if_neg e, if_neg (fun h => e h.symm)]
theorem mates_l0 (w : List Int) (hw : Word w) : ∀ d n out, n + d = w.length / 2 → out.length = w.length → (∀ t, t < w.length → w.getD t 0 < (n : Int) → out.getD t 0 = (oth w t : Int)) →
    ∃ r, Ev (fun k => impl_mates.l0 k w out ((w.length / 2 : Nat) : Int) (n : Int)) r ∧ r.length = w.length ∧ ∀ t, t < w.length → r.getD t 0 = (oth w t : Int) := by
  have hle := hw.le
  intro d
  induction d with
  | zero =>
    intro n out hn ho h
    refine ⟨out, ?_, ho, fun t ht => h t ht ?_⟩
    · refine Ev.step (f := fun _ => some out) (fun k => ?_) (Ev.now _)
      simp only [impl_mates.l0]; rw [if_neg (by omega)]
    · obtain ⟨i, hi, e, _⟩ := chord_at hw ht
      rw [e]; omega
  | succ d ih =>
    intro n out hn ho h
    have hn' : n < w.length / 2 := by omega
    have hp := places_lt (hw.count hn')
    obtain ⟨r, hr, h1, h2⟩ := ih (n + 1) ((out.set (pA w n) (pB w n : Int)).set (pB w n) (pA w n : Int)) (by omega) (by simpa using ho) (fun t ht hlt => by
      rw [getD_set (by rw [List.length_set]; omega), getD_set (by omega)]
      obtain ⟨i, hi, e, hor⟩ := chord_at hw ht
      by_cases c : i = n
      · subst c
        unfold oth
        rw [e]
        rcases hor with g | g
        · rw [if_neg (by omega), if_pos g]; omega
        · rw [if_pos g]; omega
      · have hne := places_ne hw c hi hn'
        rw [if_neg (by rcases hor with g | g <;> omega), if_neg (by rcases hor with g | g <;> omega)]
        exact h t ht (by rw [e] at hlt ⊢; omega))
    refine ⟨r, ?_, h1, h2⟩
    refine Ev_succ ?_
    simp only [impl_mates.l0]
    refine Ev.congr (fun k => if_pos (by omega)) ?_
    refine Ev.bind (iplaces_ev w n (by omega) (hw.count hn')) ?_
    refine Ev.congr (fun k => if_pos (by show (0 : Int) ≤ (pA w n : Int); omega)) ?_
    refine Ev.congr (fun k => if_pos (by show (pA w n : Int) < _; omega)) ?_
    refine Ev.congr (fun k => if_pos (by show (0 : Int) ≤ (pB w n : Int); omega)) ?_
    refine Ev.congr (fun k => if_pos (by show (pB w n : Int) < _; omega)) ?_
    exact Ev.congr (fun k => by rw [wS (by omega), Int.toNat_natCast, Int.toNat_natCast]) hr
theorem mates_ev (w : List Int) (hw : Word w) : ∃ r, Ev (fun k => impl_mates.f k w) r ∧ r.length = w.length ∧ ∀ t, t < w.length → r.getD t 0 = (oth w t : Int) := by
  have hle := hw.le
  obtain ⟨r, hr, h1, h2⟩ := mates_l0 w hw (w.length / 2) 0 (List.replicate w.length 0) (by omega) (by simp) (fun t ht hlt => by
    obtain ⟨i, hi, e, _⟩ := chord_at hw ht
    rw [e] at hlt; omega)
  refine ⟨r, ?_, h1, h2⟩
  unfold impl_mates.f
  refine Ev.congr (fun k => if_pos (by omega)) ?_
  refine Ev.congr (fun k => if_pos (by omega)) ?_
  exact Ev.congr (fun k => by rw [chords_f w hle, Option.bind_some, Int.toNat_natCast]; rfl) hr

/-! ### the curves -/
def falses (l : List Bool) : Nat := l.count false
theorem falses_set {l : List Bool} {i : Nat} (h : i < l.length) : falses (l.set i true) ≤ falses l := by
  unfold falses
  rw [List.count_set h]
  simp
theorem falses_set_lt {l : List Bool} {i : Nat} (h : i < l.length) (hf : l.getD i false = false) : falses (l.set i true) < falses l := by
  unfold falses
  have hg : l[i] = false := by rw [List.getD_eq_getElem?_getD, List.getElem?_eq_getElem h] at hf; exact hf
  have hpos : 0 < l.count false := List.count_pos_iff.2 (hg ▸ List.getElem_mem h)
  rw [List.count_set h, hg]
  simp
  omega
theorem curves_both (a b ra rb : List Int) (ha : Word a) (hb : Word b) (hl : a.length = b.length) (hra : ra.length = a.length) (hrb : rb.length = a.length)
    (ga : ∀ t, t < a.length → ra.getD t 0 = (oth a t : Int)) (gb : ∀ t, t < a.length → rb.getD t 0 = (oth b t : Int)) :
    ∀ d x, x + d = a.length → (∀ seen many, seen.length = a.length → ∃ r, Ev (fun k => spec_l09Curves.l0 k a b seen many (x : Int)) r ∧ Ev (fun k => impl_curves.l0 k ra rb seen many (a.length : Int) (x : Int)) r) := by
  have hle := ha.le
  intro d
  induction d with
  | zero =>
    intro x hx seen many hs
    refine ⟨many, ?_, ?_⟩
    · refine Ev.step (f := fun _ => some many) (fun k => ?_) (Ev.now _)
      simp only [spec_l09Curves.l0]; rw [if_neg (by omega)]
    · refine Ev.step (f := fun _ => some many) (fun k => ?_) (Ev.now _)
      simp only [impl_curves.l0]; rw [if_neg (by omega)]
  | succ d ih =>
    intro x hx
    have inner : ∀ m seen many (t : Nat), seen.length = a.length → falses seen ≤ m → t < a.length →
        ∃ r, Ev (fun k => spec_l09Curves.l1 k a b seen many (x : Int) (t : Int)) r ∧ Ev (fun k => impl_curves.l1 k ra rb seen many (t : Int) (a.length : Int) (x : Int)) r := by
      intro m
      induction m with
      | zero =>
        intro seen many t hs hm ht
        have hf : rdOf false seen (t : Int) = true := by
          unfold rdOf; rw [Int.toNat_natCast]
          cases hg : seen.getD t false with
          | true => rfl
          | false => exact absurd (falses_set_lt (by omega) hg) (by omega)
        obtain ⟨r, h1, h2⟩ := ih (x + 1) (by omega) seen many hs
        refine ⟨r, Ev.step (fun k => ?_) h1, Ev.step (fun k => ?_) h2⟩
        · simp only [spec_l09Curves.l1]; rw [if_pos (by omega), if_pos (by omega), if_pos hf, wS (by omega)]
        · simp only [impl_curves.l1]; rw [if_pos (by omega), if_pos (by omega), if_pos hf, wS (by omega)]
      | succ m ihm =>
        intro seen many t hs hm ht
        by_cases hf : rdOf false seen (t : Int) = true
        · obtain ⟨r, h1, h2⟩ := ih (x + 1) (by omega) seen many hs
          refine ⟨r, Ev.step (fun k => ?_) h1, Ev.step (fun k => ?_) h2⟩
          · simp only [spec_l09Curves.l1]; rw [if_pos (by omega), if_pos (by omega), if_pos hf, wS (by omega)]
          · simp only [impl_curves.l1]; rw [if_pos (by omega), if_pos (by omega), if_pos hf, wS (by omega)]
        · have hg : seen.getD t false = false := by
            unfold rdOf at hf; rw [Int.toNat_natCast] at hf
            cases h : seen.getD t false with
            | true => exact absurd h hf
            | false => rfl
          have hu := oth_lt ha ht
          have hv : oth b (oth a t) < a.length := by rw [hl]; exact oth_lt hb (by omega)
          have f1 := falses_set_lt (l := seen) (i := t) (by omega) hg
          have f2 := falses_set (l := seen.set t true) (i := oth a t) (by rw [List.length_set]; omega)
          obtain ⟨r, h1, h2⟩ := ihm ((seen.set t true).set (oth a t) true) many (oth b (oth a t)) (by simpa using hs) (by omega) hv
          refine ⟨r, ?_, ?_⟩
          · refine Ev_succ ?_
            simp only [spec_l09Curves.l1]
            refine Ev.congr (fun k => if_pos (by omega)) ?_
            refine Ev.congr (fun k => if_pos (by omega)) ?_
            refine Ev.congr (fun k => if_neg hf) ?_
            refine Ev.bind (other_ev a ha t ht) ?_
            refine Ev.congr (fun k => if_pos (by omega)) ?_
            refine Ev.congr (fun k => if_pos (by omega)) ?_
            refine Ev.bind (other_ev b hb (oth a t) (by omega)) ?_
            exact Ev.congr (fun k => by rw [Int.toNat_natCast, Int.toNat_natCast]) h1
          · refine Ev.step (fun k => ?_) h2
            simp only [impl_curves.l1]
            rw [if_pos (by omega), if_pos (by omega), if_neg hf, if_pos (by omega), rdN, ga t ht, if_pos (by omega), if_pos (by omega), if_pos (by omega), rdN, gb _ hu, Int.toNat_natCast, Int.toNat_natCast]
    intro seen many hs
    by_cases hf : rdOf false seen (x : Int) = true
    · obtain ⟨r, h1, h2⟩ := ih (x + 1) (by omega) seen many hs
      refine ⟨r, Ev.step (fun k => ?_) h1, Ev.step (fun k => ?_) h2⟩
      · simp only [spec_l09Curves.l0]; rw [if_pos (by omega), if_pos (by omega), if_pos (by omega), if_pos hf, wS (by omega)]
      · simp only [impl_curves.l0]; rw [if_pos (by omega), if_pos (by omega), if_pos (by omega), if_pos hf, wS (by omega)]
    · obtain ⟨r, h1, h2⟩ := inner _ seen (wrap64 (many + 1)) x hs (Nat.le_refl _) (by omega)
      refine ⟨r, Ev.step (fun k => ?_) h1, Ev.step (fun k => ?_) h2⟩
      · simp only [spec_l09Curves.l0]; rw [if_pos (by omega), if_pos (by omega), if_pos (by omega), if_neg hf]
      · simp only [impl_curves.l0]; rw [if_pos (by omega), if_pos (by omega), if_pos (by omega), if_neg hf]
theorem curves_ev (a b : List Int) (ha : Word a) (hb : Word b) (hl : a.length = b.length) : ∃ r, Ev (fun k => spec_l09Curves.f k a b) r ∧ Ev (fun k => impl_curves.f k a b) r := by
  have hle := ha.le
  obtain ⟨ra, ea, la, ga⟩ := mates_ev a ha
  obtain ⟨rb, eb, lb, gb⟩ := mates_ev b hb
  obtain ⟨r, h1, h2⟩ := curves_both a b ra rb ha hb hl la (by omega) ga (fun t ht => gb t (by omega)) a.length 0 (by omega) (List.replicate a.length false) 0 (by simp)
  refine ⟨r, ?_, ?_⟩
  · unfold spec_l09Curves.f
    refine Ev.congr (fun k => if_pos (by omega)) ?_
    refine Ev.congr (fun k => if_pos (by omega)) ?_
    exact Ev.congr (fun k => by rw [Int.toNat_natCast]; rfl) h1
  · unfold impl_curves.f
    refine Ev.bind ea ?_
    refine Ev.bind eb ?_
    refine Ev.congr (fun k => if_pos (by omega)) ?_
    refine Ev.congr (fun k => if_pos (by omega)) ?_
    exact Ev.congr (fun k => by rw [Int.toNat_natCast, Option.bind_some, List.length_replicate]; rfl) h2

/-- The code of two words with equally many chords. -/
def code2 (a b : List Int) : Int := if isW a = true ∧ isW b = true then (if a.length = b.length then 0 else 2) else 1
theorem two_ev (a b : List Int) : Ev (fun k => spec_l09Two.f k a b) (code2 a b) := by
  unfold spec_l09Two.f code2
  have hj : ∀ x, x = true → Ev (fun k => spec_l09Two.j0 k a b x) 1 := fun x hx => by
    subst hx
    refine Ev.step (f := fun _ => some 1) (fun k => ?_) (Ev.now _)
    simp only [spec_l09Two.j0, if_true]
  refine Ev.bind (is_ev a) ?_
  by_cases h1 : isW a = true
  · refine Ev.congr (f := fun k => (spec_l01Is.f k b).bind fun t => spec_l09Two.j0 k a b (!t)) (fun k => if_pos h1) ?_
    refine Ev.bind (is_ev b) ?_
    by_cases h2 : isW b = true
    · rw [h2, if_pos ⟨h1, rfl⟩]
      refine Ev.step (f := fun _ => some _) (fun k => ?_) (Ev.now _)
      simp only [spec_l09Two.j0, Bool.not_true, Bool.false_eq_true, if_false]
      by_cases e : a.length = b.length
      · rw [if_pos (by omega), if_pos e]
      · rw [if_neg (by omega), if_neg e]
    · rw [if_neg (fun h => h2 h.2)]
      exact hj _ (by simpa using h2)
  · rw [if_neg (fun h => h1 h.1)]
    exact Ev.congr (fun k => if_neg h1) (hj true rfl)
theorem fault_f (a b : List Int) (ha : ∀ x ∈ a, (Lit.int .i64 x).wf = true) (hb : ∀ x ∈ b, (Lit.int .i64 x).wf = true) : impl_equalFault.f a b = some (code2 a b) := by
  unfold impl_equalFault.f impl_invalid.f code2
  have hwf : ([a, b] : List (List Int)).all wfL = true := by
    simp only [List.all_cons, List.all_nil, Bool.and_true, Bool.and_eq_true]
    exact ⟨List.all_eq_true.2 ha, List.all_eq_true.2 hb⟩
  rw [if_pos ⟨hwf, by simp⟩, Option.bind_some]
  by_cases h : isW a = true ∧ isW b = true
  · rw [show ([a, b] : List (List Int)).all isW = true from by simp [h.1, h.2], if_pos h, if_pos rfl, if_pos rfl]
    by_cases e : a.length = b.length
    · rw [if_pos (by omega), if_pos e]
    · rw [if_neg (by omega), if_neg e]
  · have : ([a, b] : List (List Int)).all isW = false := by
      rw [Bool.eq_false_iff]; intro g
      simp only [List.all_cons, List.all_nil, Bool.and_true, Bool.and_eq_true] at g
      exact h g
    rw [this, if_neg h]; rfl
theorem countCurves_both (a b : List Int) (ha : ∀ x ∈ a, (Lit.int .i64 x).wf = true) (hb : ∀ x ∈ b, (Lit.int .i64 x).wf = true) : ∃ v : Int × Int, Ev (fun k => spec_CountCurves.f k a b) v ∧ Ev (fun k => impl_CountCurves.f k a b) v := by
  unfold spec_CountCurves.f impl_CountCurves.f
  by_cases h : code2 a b = 0
  · have hc := h
    unfold code2 at hc
    by_cases h1 : isW a = true ∧ isW b = true
    · rw [if_pos h1] at hc
      by_cases h2 : a.length = b.length
      · obtain ⟨r, e1, e2⟩ := curves_ev a b ((isW_iff a).1 h1.1) ((isW_iff b).1 h1.2) h2
        refine ⟨(r, 0), ?_, ?_⟩
        · exact Ev.bind (two_ev a b) (Ev.congr (fun k => if_pos h) (Ev.bind e1 (Ev.now _)))
        · refine Ev.congr (fun k => by rw [fault_f a b ha hb, Option.bind_some, if_pos h]) (Ev.bind e2 (Ev.now _))
      · rw [if_neg h2] at hc; exact absurd hc (by decide)
    · rw [if_neg h1] at hc; exact absurd hc (by decide)
  · refine ⟨(0, code2 a b), ?_, ?_⟩
    · exact Ev.bind (two_ev a b) (Ev.congr (fun k => if_neg h) (Ev.now _))
    · exact Ev.congr (fun k => by rw [fault_f a b ha hb, Option.bind_some, if_neg h]) (Ev.now _)
end Go.Proofs.Ytfijnlbkflmkbaa.Pure
