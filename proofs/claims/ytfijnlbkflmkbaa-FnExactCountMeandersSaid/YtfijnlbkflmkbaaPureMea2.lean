/- Plain laws: all words as the reference lists them, and those without crossings among them. -/
import Derived.Test.YtfijnlbkflmkbaaFgD
import Derived.Test.YtfijnlbkflmkbaaFx40
import Derived.Test.YtfijnlbkflmkbaaFx97
import Derived.Test.YtfijnlbkflmkbaaPureMea1
import Derived.Test.YtfijnlbkflmkbaaPureFlatW
import Derived.Test.YtfijnlbkflmkbaaPureFlat
namespace Go.Proofs.Ytfijnlbkflmkbaa.Pure
open Go.RowKit Go.Proofs.Ytfijnlbkflmkbaa.F Go.Proofs.YtfijnlbkflmkbaaW.PrintWords Go.Proofs.YtfijnlbkflmkbaaW.PrintLast
set_option linter.unusedVariables false
set_option linter.unusedSimpArgs false

/-- All words that go on from some numbers, d more. -/
def fillW (n : Nat) : Nat → List Int → Nat → List (List Int)
  | 0, b, _ => [b]
  | d + 1, b, met => (List.range (min (met + 1) n)).flatMap fun (x : Nat) => if b.count (x : Int) < 2 then fillW n d (b ++ [(x : Int)]) (max met (x + 1)) else []
def fillG (n d : Nat) (b : List Int) (met x : Nat) : List (List Int) := if b.count (x : Int) < 2 then fillW n d (b ++ [(x : Int)]) (max met (x + 1)) else []
theorem fillW_succ (n d : Nat) (b : List Int) (met : Nat) : fillW n (d + 1) b met = (List.range (min (met + 1) n)).flatMap (fillG n d b met) := rfl
theorem fillW_len (n : Nat) (hn : n ≤ 6) : ∀ (d : Nat) (b : List Int) (met : Nat), (fillW n d b met).length ≤ 6 ^ d
  | 0, b, met => by rw [fillW]; simp
  | d + 1, b, met => by
    rw [fillW_succ]
    have h := flatMap_len (fillG n d b met) (6 ^ d) (List.range (min (met + 1) n)) (fun x _ => by
      unfold fillG
      split
      · exact fillW_len n hn d _ _
      · simp)
    rw [List.length_range] at h
    have h2 : min (met + 1) n * 6 ^ d ≤ 6 * 6 ^ d := Nat.mul_le_mul_right _ (by omega)
    rw [Nat.pow_succ, Nat.mul_comm]
    exact Nat.le_trans h h2
theorem fill_count (b : List Int) (met n : Nat) (out : List (List Int)) (x : Nat) (hb : b.length ≤ 12) (r : List (List Int))
    (hr : Ev (fun k => if ((b.count (x : Int) : Nat) : Int) < 2 then ((spec_l01Own.f b).bind fun t1 => (if t1.length < 17592186044416 then ((spec_l01Fill.f k (t1 ++ [(x : Int)]) (mx (met : Int) (wrap64 ((x : Int) + 1))) (n : Int)).bind fun t2 => (if out.length + t2.length < 5864062014805 then (spec_l01Fill.l0 k b (met : Int) (n : Int) (out ++ t2) (wrap64 ((x : Int) + 1))) else (none))) else (none))) else (spec_l01Fill.l0 k b (met : Int) (n : Int) out (wrap64 ((x : Int) + 1)))) r) :
    ∀ q j, j + q = b.length → Ev (fun k => spec_l01Fill.l1 k b (met : Int) (n : Int) out (x : Int) (((b.take j).count (x : Int) : Nat) : Int) (j : Int)) r := by
  intro q
  induction q with
  | zero =>
    intro j hj
    refine Ev_succ ?_
    simp only [spec_l01Fill.l1]
    rw [show b.take j = b from List.take_of_length_le (by omega)]
    exact Ev.congr (fun k => if_neg (by omega)) hr
  | succ q ih =>
    intro j hj
    have hjl : j < b.length := by omega
    have hh := ih (j + 1) (by omega)
    rw [List.take_succ_eq_append_getElem hjl, List.count_append, List.count_singleton] at hh
    have hcl : (b.take j).count (x : Int) ≤ 12 := Nat.le_trans List.count_le_length (by rw [List.length_take]; omega)
    refine Ev_succ ?_
    simp only [spec_l01Fill.l1]
    refine Ev.congr (fun k => if_pos (by omega)) (Ev.congr (fun k => if_pos (by omega)) ?_)
    rw [rdN, List.getD_eq_getElem?_getD, List.getElem?_eq_getElem hjl, Option.getD_some, wS (n := j) (by omega)]
    by_cases e : b[j] = (x : Int)
    · rw [if_pos (by simpa using e)] at hh
      rw [wS (by omega)]
      exact Ev.congr (fun k => if_pos e) hh
    · rw [if_neg (by simpa using e), Nat.add_zero] at hh
      exact Ev.congr (fun k => if_neg e) hh
theorem fill_ev (n : Nat) (hn : n ≤ 6) : ∀ (d : Nat) (b : List Int) (met : Nat), b.length + d = 2 * n → met ≤ 6 → Ev (fun k => spec_l01Fill.f k b (met : Int) (n : Int)) (fillW n d b met) := by
  have hw : wrap64 (2 * (n : Int)) = 2 * (n : Int) := by unfold wrap64; omega
  intro d
  induction d with
  | zero =>
    intro b met hb hm
    refine Ev_succ ?_
    simp only [spec_l01Fill.f]
    rw [hw]
    exact Ev.congr (fun k => if_pos (by omega)) (Ev.now _)
  | succ d ih =>
    intro b met hb hm
    refine Ev_succ ?_
    simp only [spec_l01Fill.f]
    rw [hw, fillW_succ]
    refine Ev.congr (fun k => if_neg (by omega)) ?_
    obtain ⟨Bd, hBd⟩ : ∃ Bd, Bd = 362797056 := ⟨_, rfl⟩
    have hpow : 6 ^ d ≤ Bd := by rw [hBd]; exact Nat.le_trans (Nat.pow_le_pow_right (n := 6) (by decide) (show d ≤ 11 by omega)) (by decide)
    generalize hG : fillG n d b met = G
    have key : ∀ e x out, x + e = min (met + 1) n → out.length ≤ x * Bd → Ev (fun k => spec_l01Fill.l0 k b (met : Int) (n : Int) out (x : Int)) (out ++ (List.range' x e).flatMap G) := by
      intro e
      induction e with
      | zero =>
        intro x out hx ho
        refine Ev_succ ?_
        simp only [spec_l01Fill.l0]
        have hj : Ev (fun k => spec_l01Fill.j1 k b (met : Int) (n : Int) out (x : Int) false) out := by
          refine Ev_succ ?_
          simp only [spec_l01Fill.j1]
          exact Ev.congr (fun k => if_neg (by simp)) (Ev.now _)
        rw [List.range'_zero, List.flatMap_nil, List.append_nil]
        by_cases h : (x : Int) ≤ (met : Int)
        · refine Ev.congr (fun k => if_pos h) ?_
          rw [decide_eq_false (by omega)]
          exact hj
        · exact Ev.congr (fun k => if_neg h) hj
      | succ e ihe =>
        intro x out hx ho
        refine Ev_succ ?_
        simp only [spec_l01Fill.l0]
        refine Ev.congr (fun k => if_pos (by omega)) ?_
        rw [decide_eq_true (show (x : Int) < (n : Int) by omega)]
        refine Ev_succ ?_
        simp only [spec_l01Fill.j1]
        refine Ev.congr (fun k => if_pos trivial) ?_
        have h0 := fill_count b met n out x (by omega) (out ++ (List.range' x (e + 1)).flatMap G) ?_ b.length 0 (by omega)
        · rw [List.take_zero] at h0; exact h0
        rw [List.range'_succ, List.flatMap_cons, ← List.append_assoc]
        have hgx : G x = if b.count (x : Int) < 2 then fillW n d (b ++ [(x : Int)]) (max met (x + 1)) else [] := by rw [← hG]; rfl
        by_cases c : b.count (x : Int) < 2
        · rw [if_pos c] at hgx
          refine Ev.congr (fun k => if_pos (by omega)) ?_
          rw [own_f _ (by omega)]
          refine Ev.congr (fun k => (Option.bind_some _ _).trans (if_pos (by omega))) ?_
          rw [wS (n := x) (by omega), show mx (met : Int) ((x + 1 : Nat) : Int) = ((max met (x + 1) : Nat) : Int) from by unfold mx; omega]
          have hl := fillW_len n hn d (b ++ [(x : Int)]) (max met (x + 1))
          refine Ev.bind (ih (b ++ [(x : Int)]) (max met (x + 1)) (by rw [List.length_append, List.length_singleton]; omega) (by omega)) ?_
          have hx6 : x * Bd ≤ 6 * Bd := Nat.mul_le_mul_right _ (by omega)
          refine Ev.congr (fun k => if_pos (by omega)) ?_
          rw [hgx]
          exact ihe (x + 1) _ (by omega) (by rw [List.length_append, Nat.succ_mul]; omega)
        · rw [if_neg c] at hgx
          refine Ev.congr (fun k => if_neg (by omega)) ?_
          rw [wS (n := x) (by omega), hgx, List.append_nil]
          exact ihe (x + 1) _ (by omega) (by rw [Nat.succ_mul]; omega)
    have := key (min (met + 1) n) 0 [] (by omega) (by simp)
    rw [List.nil_append] at this
    rw [List.range_eq_range']
    exact this
end Go.Proofs.Ytfijnlbkflmkbaa.Pure
