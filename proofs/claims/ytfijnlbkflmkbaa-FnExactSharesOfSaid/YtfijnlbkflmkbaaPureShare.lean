/- Plain laws: what IsShare comes to on both sides. -/
import Derived.Test.YtfijnlbkflmkbaaFgA
import Derived.Test.YtfijnlbkflmkbaaFx143
import Derived.Test.YtfijnlbkflmkbaaFx34
import Derived.Test.YtfijnlbkflmkbaaFx35
import Derived.Test.YtfijnlbkflmkbaaFx86
import Derived.Test.YtfijnlbkflmkbaaFx87
import Derived.Test.YtfijnlbkflmkbaaFx88
import Derived.Test.YtfijnlbkflmkbaaFx89
import Derived.Test.YtfijnlbkflmkbaaPureC
namespace Go.Proofs.Ytfijnlbkflmkbaa.Pure
open Go.RowKit Go.Proofs.Ytfijnlbkflmkbaa.F Go.Proofs.YtfijnlbkflmkbaaW.PrintWords Go.Proofs.YtfijnlbkflmkbaaW.PrintLast

def inArc (t p q r s : Int) : Bool := decide (p ≤ t ∧ t ≤ q - 1) || decide (r ≤ t ∧ t ≤ s - 1)
def sameSide (w : List Int) (p q r s : Int) (i : Nat) : Bool := inArc (pA w i) p q r s == inArc (pB w i) p q r s
def shareS (w : List Int) (p q r s : Int) : Bool := (List.range' 0 (w.length / 2)).all (sameSide w p q r s)
theorem wP {q : Int} (h0 : 0 ≤ q) (h1 : q ≤ 4611686018427387904) : wrap64 (q - 1) = q - 1 := by unfold wrap64; omega
theorem inside_f (t p q r s : Int) (hq : 0 ≤ q ∧ q ≤ 12) (hs : 0 ≤ s ∧ s ≤ 12) : spec_l09Inside.f t p q r s = some (inArc t p q r s) := by
  unfold spec_l09Inside.f inArc
  rw [spec_in_f, Option.bind_some, wP hq.1 (by omega), wP hs.1 (by omega), spec_in_f]
  by_cases h : p ≤ t ∧ t ≤ q - 1
  · rw [if_pos (decide_eq_true h), decide_eq_true h, Bool.true_or]
  · rw [if_neg (by simpa using h), decide_eq_false h, Bool.false_or, Option.bind_some]
theorem half_w (w : List Int) (h : w.length ≤ 12) : wrap64 ((w.length : Int) / 2) = ((w.length / 2 : Nat) : Int) := by unfold wrap64; omega
theorem specShare_l0 (w : List Int) (hw : Word w) (p q r s : Int) (hq : 0 ≤ q ∧ q ≤ 12) (hs : 0 ≤ s ∧ s ≤ 12) : ∀ d n, n + d = w.length / 2 → Ev (fun k => spec_l09Share.l0 k w p q r s (n : Int)) ((List.range' n d).all (sameSide w p q r s)) := by
  have hle := hw.le
  intro d
  induction d with
  | zero =>
    intro n hn
    refine Ev.step (f := fun _ => some true) (fun k => ?_) (Ev.now _)
    simp only [spec_l09Share.l0]; rw [half_w w hle, if_neg (by omega)]
  | succ d ih =>
    intro n hn
    rw [List.range'_succ, List.all_cons]
    refine Ev.step (f := fun k => (spec_l01Places.f k w (n : Int)).bind fun bt234 => ((spec_l09Inside.f bt234.1 p q r s).bind fun t236 => ((spec_l09Inside.f bt234.2 p q r s).bind fun t237 => (if (t236 != t237) = true then (some false) else (spec_l09Share.l0 k w p q r s (wrap64 ((n : Int) + 1))))))) (fun k => ?_) ?_
    · simp only [spec_l09Share.l0]; rw [half_w w hle, if_pos (by omega)]
    refine Ev.bind (places_ev w n (by omega) (hw.count (by omega))) ?_
    refine Ev.congr (f := fun k => if (inArc (pA w n) p q r s != inArc (pB w n) p q r s) = true then some false else spec_l09Share.l0 k w p q r s ((n + 1 : Nat) : Int)) (fun k => ?_) ?_
    · show (spec_l09Inside.f (pA w n : Int) p q r s).bind _ = _
      rw [inside_f _ _ _ _ _ hq hs, Option.bind_some]
      show (spec_l09Inside.f (pB w n : Int) p q r s).bind _ = _
      rw [inside_f _ _ _ _ _ hq hs, Option.bind_some, wS (by omega)]
    show Ev _ (sameSide w p q r s n && _)
    unfold sameSide
    by_cases e : inArc (pA w n) p q r s = inArc (pB w n) p q r s
    · rw [e]; simp only [bne_self_eq_false, Bool.false_eq_true, if_false, BEq.rfl, Bool.true_and]
      exact ih (n + 1) (by omega)
    · rw [show (inArc (pA w n) p q r s == inArc (pB w n) p q r s) = false from by simpa using e, Bool.false_and]
      exact Ev.congr (fun k => if_pos (by simpa using e)) (Ev.now _)
/-- The code of a word and four places. -/
def code4 (w : List Int) (p q r s : Int) : Int := if isW w = true then (if 0 ≤ p ∧ p ≤ q ∧ q ≤ r ∧ r ≤ s ∧ s ≤ w.length then 0 else 2) else 1
theorem code4_ev (w : List Int) (p q r s : Int) : Ev (fun k => spec_l09Code.f k w p q r s) (code4 w p q r s) := by
  unfold spec_l09Code.f code4
  refine Ev.bind (is_ev w) ?_
  by_cases h : isW w = true
  · refine Ev.congr (fun k => if_pos h) ?_
    rw [if_pos h]
    refine Ev.congr (f := fun _ => some (if 0 ≤ p ∧ p ≤ q ∧ q ≤ r ∧ r ≤ s ∧ s ≤ w.length then 0 else 2)) (fun k => ?_) (Ev.now _)
    rw [spec_in_f, Option.bind_some]
    by_cases h1 : 0 ≤ s ∧ s ≤ (w.length : Int)
    · rw [if_pos (decide_eq_true h1), spec_in_f, Option.bind_some]
      by_cases h2 : 0 ≤ r ∧ r ≤ s
      · rw [if_pos (decide_eq_true h2), spec_in_f, Option.bind_some]
        by_cases h3 : 0 ≤ q ∧ q ≤ r
        · rw [if_pos (decide_eq_true h3), spec_in_f, Option.bind_some]
          by_cases h4 : 0 ≤ p ∧ p ≤ q
          · rw [if_pos (decide_eq_true h4), if_pos (by omega)]
          · rw [if_neg (by simpa using h4), if_neg (by omega)]
        · rw [if_neg (by simpa using h3), if_neg (by omega)]
      · rw [if_neg (by simpa using h2), if_neg (by omega)]
    · rw [if_neg (by simpa using h1), if_neg (by omega)]
  · exact Ev.congr (fun k => if_neg h) (by rw [if_neg h]; exact Ev.now _)
theorem specIsShare_ev (w : List Int) (p q r s : Int) : Ev (fun k => spec_IsShare.f k w p q r s) (if code4 w p q r s = 0 then (shareS w p q r s, 0) else (false, code4 w p q r s)) := by
  unfold spec_IsShare.f
  refine Ev.bind (code4_ev w p q r s) ?_
  by_cases h : code4 w p q r s = 0
  · refine Ev.congr (fun k => if_pos h) ?_
    rw [if_pos h]
    have hc := h
    unfold code4 at hc
    by_cases h1 : isW w = true
    · rw [if_pos h1] at hc
      by_cases h2 : 0 ≤ p ∧ p ≤ q ∧ q ≤ r ∧ r ≤ s ∧ s ≤ (w.length : Int)
      · have hw := (isW_iff w).1 h1
        have := hw.le
        refine Ev.bind (a := shareS w p q r s) ?_ (Ev.now _)
        exact Ev.congr (f := fun k => spec_l09Share.l0 k w p q r s ((0 : Nat) : Int)) (fun _ => rfl) (specShare_l0 w hw p q r s (by omega) (by omega) _ 0 (by omega))
      · rw [if_neg h2] at hc; exact absurd hc (by decide)
    · rw [if_neg h1] at hc; exact absurd hc (by decide)
  · refine Ev.congr (fun k => if_neg h) ?_
    rw [if_neg h]; exact Ev.now _

/-! ### the program's side -/
def plOk2 (n prev : Int) : List Int → Bool
  | [] => true
  | x :: r => decide (0 ≤ x ∧ x ≤ n) && (decide (prev ≤ x) && plOk2 n x r)
def plOk (n : Int) : List Int → Bool
  | [] => true
  | x :: r => decide (0 ≤ x ∧ x ≤ n) && plOk2 n x r
theorem placesOk_l0 (w ls : List Int) (hb : ls.length < 4611686018427387904) : ∀ d n, n + 1 + d = ls.length → Ev (fun k => impl_placesOk.l0 k w ls ls (ls.length : Int) ((n + 1 : Nat) : Int)) (plOk2 w.length (ls.getD n 0) (ls.drop (n + 1))) := by
  intro d
  induction d with
  | zero =>
    intro n hn
    rw [List.drop_of_length_le (by omega)]
    refine Ev.step (f := fun _ => some true) (fun k => ?_) (Ev.now _)
    simp only [impl_placesOk.l0]; rw [if_neg (by omega)]
  | succ d ih =>
    intro n hn
    rw [drop_cons (by omega)]
    have e1 : wrap64 (((n + 1 : Nat) : Int) - 1) = (n : Int) := by unfold wrap64; omega
    refine Ev.step (f := fun k => if 0 ≤ ls.getD (n + 1) 0 ∧ ls.getD (n + 1) 0 ≤ w.length then (if ls.getD (n + 1) 0 < ls.getD n 0 then some false else impl_placesOk.l0 k w ls ls (ls.length : Int) ((n + 1 + 1 : Nat) : Int)) else some false) (fun k => ?_) ?_
    · simp only [impl_placesOk.l0]
      rw [if_pos (by omega), if_pos (by omega), if_pos (by omega), in_f, Option.bind_some, rdN, e1, rdN, wS (by omega)]
      by_cases h : 0 ≤ ls.getD (n + 1) 0 ∧ ls.getD (n + 1) 0 ≤ (w.length : Int)
      · rw [if_pos (decide_eq_true h), if_pos (by omega), if_pos (by omega), if_pos (by omega), if_pos h]
      · rw [if_neg (by simpa using h), if_neg h]
    unfold plOk2
    by_cases h : 0 ≤ ls.getD (n + 1) 0 ∧ ls.getD (n + 1) 0 ≤ (w.length : Int)
    · refine Ev.congr (fun k => if_pos h) ?_
      rw [decide_eq_true h, Bool.true_and]
      by_cases g : ls.getD (n + 1) 0 < ls.getD n 0
      · rw [decide_eq_false (by omega), Bool.false_and]
        exact Ev.congr (fun k => if_pos g) (Ev.now _)
      · rw [decide_eq_true (by omega), Bool.true_and]
        exact Ev.congr (fun k => if_neg g) (ih (n + 1) (by omega))
    · rw [decide_eq_false h, Bool.false_and]
      exact Ev.congr (fun k => if_neg h) (Ev.now _)
theorem placesOk_ev (w ls : List Int) (hb : ls.length < 4611686018427387904) : Ev (fun k => impl_placesOk.f k w ls) (plOk w.length ls) := by
  unfold impl_placesOk.f
  cases ls with
  | nil =>
    refine Ev.step (f := fun _ => some true) (fun k => ?_) (Ev.now _)
    simp only [impl_placesOk.l0]; rw [if_neg (by simp)]
  | cons x r =>
    have hpos : 0 < (x :: r).length := by simp
    refine Ev.step (f := fun k => if 0 ≤ x ∧ x ≤ w.length then impl_placesOk.l0 k w (x :: r) (x :: r) ((x :: r).length : Int) ((0 + 1 : Nat) : Int) else some false) (fun k => ?_) ?_
    · simp only [impl_placesOk.l0]
      rw [if_pos (by omega), if_pos (by omega), if_pos (by omega), in_f, Option.bind_some, if_neg (show ¬ (0 : Int) > 0 by omega), show rd (x :: r) 0 = x from rfl, show wrap64 (0 + 1) = ((0 + 1 : Nat) : Int) from by unfold wrap64; omega]
      by_cases h : 0 ≤ x ∧ x ≤ (w.length : Int)
      · rw [if_pos (decide_eq_true h), if_pos h]
      · rw [if_neg (by simpa using h), if_neg h]
    show Ev _ (decide (0 ≤ x ∧ x ≤ (w.length : Int)) && plOk2 w.length x r)
    by_cases h : 0 ≤ x ∧ x ≤ (w.length : Int)
    · rw [decide_eq_true h, Bool.true_and]
      exact Ev.congr (fun k => if_pos h) (placesOk_l0 w (x :: r) hb r.length 0 (by simp; omega))
    · rw [decide_eq_false h, Bool.false_and]
      exact Ev.congr (fun k => if_neg h) (Ev.now _)
theorem plOk_four (n p q r s : Int) : plOk n [p, q, r, s] = decide (0 ≤ p ∧ p ≤ q ∧ q ≤ r ∧ r ≤ s ∧ s ≤ n) := by
  rw [Bool.eq_iff_iff]
  simp only [plOk, plOk2, Bool.and_true, Bool.and_eq_true, decide_eq_true_eq]
  omega
/-- The numbers of both arcs. -/
def arcs (w : List Int) (p q r s : Nat) : List Int := (w.take q).drop p ++ (w.take s).drop r
theorem count_arc {x : Int} {w : List Int} (h : w.count x = 2) (p q : Nat) (hpq : p ≤ q) (hq : q ≤ w.length) : ((w.take q).drop p).count x = (if p ≤ pA w x ∧ pA w x < q then 1 else 0) + (if p ≤ pB w x ∧ pB w x < q then 1 else 0) := by
  have h1 := count_take h q hq
  have h2 := count_take h p (by omega)
  have e : w.take q = w.take p ++ (w.take q).drop p := by
    have := List.take_append_drop p (w.take q)
    rw [List.take_take, Nat.min_eq_left hpq] at this
    exact this.symm
  rw [e, List.count_append, h2] at h1
  by_cases a1 : pA w x < p <;> by_cases a2 : pA w x < q <;> by_cases b1 : pB w x < p <;> by_cases b2 : pB w x < q <;> simp only [a1, a2, b1, b2, if_true, if_false, and_true, and_false, show (p ≤ pA w x) = ¬ (pA w x < p) from by rw [Nat.not_lt], show (p ≤ pB w x) = ¬ (pB w x < p) from by rw [Nat.not_lt], not_true_eq_false, not_false_eq_true] at h1 ⊢ <;> omega
theorem count_arcs {x : Int} {w : List Int} (h : w.count x = 2) (p q r s : Nat) (h1 : p ≤ q) (h2 : q ≤ r) (h3 : r ≤ s) (h4 : s ≤ w.length) :
    (arcs w p q r s).count x = (if inArc (pA w x) p q r s = true then 1 else 0) + (if inArc (pB w x) p q r s = true then 1 else 0) := by
  unfold arcs
  rw [List.count_append, count_arc h p q h1 (by omega), count_arc h r s h3 h4]
  have key : ∀ a : Nat, (if inArc (a : Int) p q r s = true then 1 else 0) = (if p ≤ a ∧ a < q then 1 else 0) + (if r ≤ a ∧ a < s then 1 else 0) := by
    intro a
    unfold inArc
    by_cases c1 : p ≤ a ∧ a < q
    · rw [if_pos c1, if_neg (show ¬ (r ≤ a ∧ a < s) by omega), if_pos (by rw [Bool.or_eq_true]; left; exact decide_eq_true (by omega))]
    · rw [if_neg c1]
      by_cases c2 : r ≤ a ∧ a < s
      · rw [if_pos c2, if_pos (by rw [Bool.or_eq_true]; right; exact decide_eq_true (by omega))]
      · rw [if_neg c2, if_neg (by rw [Bool.or_eq_true]; simp only [decide_eq_true_eq]; omega)]
  rw [key, key]
  omega
theorem arcs_sub {x : Int} {w : List Int} {p q r s : Nat} (h : x ∈ arcs w p q r s) : x ∈ w := by
  unfold arcs at h
  rcases List.mem_append.1 h with h | h
  · exact List.mem_of_mem_take (List.mem_of_mem_drop h)
  · exact List.mem_of_mem_take (List.mem_of_mem_drop h)
theorem tw_arcs {w : List Int} (hw : Word w) (p q r s : Nat) (h1 : p ≤ q) (h2 : q ≤ r) (h3 : r ≤ s) (h4 : s ≤ w.length) : tw (arcs w p q r s) = shareS w p q r s := by
  rw [Bool.eq_iff_iff]
  unfold tw shareS
  simp only [List.all_eq_true, beq_iff_eq]
  constructor
  · intro h i hi
    have hi' : i < w.length / 2 := by have := List.mem_range'_1.1 hi; omega
    have hc := count_arcs (hw.count hi') p q r s h1 h2 h3 h4
    unfold sameSide
    rw [beq_iff_eq]
    by_cases hm : (i : Int) ∈ arcs w p q r s
    · rw [h _ hm] at hc
      cases a : inArc (pA w i) p q r s <;> cases b : inArc (pB w i) p q r s <;> simp [a, b] at hc ⊢
    · rw [List.count_eq_zero.2 hm] at hc
      cases a : inArc (pA w i) p q r s <;> cases b : inArc (pB w i) p q r s <;> simp [a, b] at hc ⊢
  · intro h x hx
    obtain ⟨i, hi, rfl⟩ := (hw.mem x).1 (arcs_sub hx)
    have hs := h i (List.mem_range'_1.2 (by omega))
    unfold sameSide at hs
    rw [beq_iff_eq] at hs
    have hc := count_arcs (hw.count hi) p q r s h1 h2 h3 h4
    have hpos := List.count_pos_iff.2 hx
    rw [hc] at hpos ⊢
    rw [hs] at hpos ⊢
    cases b : inArc (pB w i) p q r s <;> simp [b] at hpos ⊢
theorem implIsShare_ev (w : List Int) (p q r s : Int) (hwf : ∀ x ∈ w, (Lit.int .i64 x).wf = true) : Ev (fun k => impl_IsShare.f k w p q r s) (if code4 w p q r s = 0 then (shareS w p q r s, 0) else (false, code4 w p q r s)) := by
  unfold impl_IsShare.f
  refine Ev.bind (isWord_ev w hwf) ?_
  by_cases h1 : isW w = true
  · refine Ev.congr (fun k => if_pos h1) ?_
    have hw := (isW_iff w).1 h1
    have hle := hw.le
    refine Ev.bind (placesOk_ev w [p, q, r, s] (by simp)) ?_
    rw [plOk_four]
    by_cases h2 : 0 ≤ p ∧ p ≤ q ∧ q ≤ r ∧ r ≤ s ∧ s ≤ (w.length : Int)
    · have hc : code4 w p q r s = 0 := by unfold code4; rw [if_pos h1, if_pos h2]
      rw [if_pos hc]
      refine Ev.congr (f := fun _ => some (shareS w p q r s, 0)) (fun k => ?_) (Ev.now _)
      rw [if_pos (decide_eq_true h2)]
      obtain ⟨p, rfl⟩ := Int.eq_ofNat_of_zero_le h2.1
      obtain ⟨q, rfl⟩ := Int.eq_ofNat_of_zero_le (show 0 ≤ q by omega)
      obtain ⟨r, rfl⟩ := Int.eq_ofNat_of_zero_le (show 0 ≤ r by omega)
      obtain ⟨s, rfl⟩ := Int.eq_ofNat_of_zero_le (show 0 ≤ s by omega)
      unfold impl_isShare.f slices_Concat_int64_int64.f
      rw [if_pos (by omega), if_pos (by omega), if_pos (by omega), if_pos (by omega), if_pos (by omega), if_pos (by omega)]
      simp only [Int.toNat_natCast]
      have hfl : ([(w.take q).drop p, (w.take s).drop r] : List (List Int)).flatten = arcs w p q r s := by simp [arcs]
      have hal : (arcs w p q r s).length ≤ 24 := by
        unfold arcs
        simp only [List.length_append, List.length_drop, List.length_take]
        omega
      rw [hfl, if_pos (by simp only [List.length_cons, List.length_nil]; omega), Option.bind_some]
      unfold impl_twice.f
      rw [if_pos (okL_of (by omega) (fun x hx => hwf x (arcs_sub hx)))]
      simp only [Option.bind_some]
      have ht := tw_arcs hw p q r s (by omega) (by omega) (by omega) (by omega)
      unfold tw at ht
      rw [ht]
    · have hc : code4 w p q r s = 2 := by unfold code4; rw [if_pos h1, if_neg h2]
      rw [hc, if_neg (show ¬ ((2 : Int) = 0) by decide)]
      refine Ev.congr (fun k => ?_) (Ev.now _)
      rw [if_neg (by simp; omega)]
  · have hc : code4 w p q r s = 1 := by unfold code4; rw [if_neg h1]
    rw [hc, if_neg (show ¬ ((1 : Int) = 0) by decide)]
    exact Ev.congr (fun k => if_neg h1) (Ev.now _)
end Go.Proofs.Ytfijnlbkflmkbaa.Pure
