/- Plain laws: two lists compared, and whether a number stands in a list, on the program's side. -/
import Derived.Test.YtfijnlbkflmkbaaFgB
import Derived.Test.YtfijnlbkflmkbaaPureD
namespace Go.Proofs.Ytfijnlbkflmkbaa.Pure
open Go.RowKit Go.Proofs.Ytfijnlbkflmkbaa.F Go.Proofs.YtfijnlbkflmkbaaW.PrintWords Go.Proofs.YtfijnlbkflmkbaaW.PrintLast
set_option linter.unusedVariables false

theorem indexI_l0 (l : List Int) (x : Int) (hb : l.length < 4611686018427387904) : ∀ d n, n + d = l.length → Ev (fun k => (slices_Index_int_int.l0 k l x (l.length : Int) (n : Int)).bind fun t => some (decide (t ≥ 0))) ((l.drop n).contains x) := by
  intro d
  induction d with
  | zero =>
    intro n hn
    rw [List.drop_of_length_le (by omega)]
    refine Ev_succ ?_
    simp only [slices_Index_int_int.l0]
    exact Ev.congr (fun k => by rw [if_neg (by omega)]; rfl) (Ev.now _)
  | succ d ih =>
    intro n hn
    rw [drop_cons (by omega)]
    refine Ev_succ ?_
    simp only [slices_Index_int_int.l0]
    by_cases e : x = l.getD n 0
    · rw [show (l.getD n 0 :: l.drop (n + 1)).contains x = true from List.contains_iff_mem.2 (e ▸ List.mem_cons_self)]
      exact Ev.congr (fun k => by rw [if_pos (by omega), if_pos (by omega), if_pos (by omega), rdN, if_pos e, Option.bind_some, decide_eq_true (by omega)]) (Ev.now _)
    · rw [show (l.getD n 0 :: l.drop (n + 1)).contains x = (l.drop (n + 1)).contains x from by
        rw [Bool.eq_iff_iff, List.contains_iff_mem, List.contains_iff_mem, List.mem_cons]
        exact ⟨fun h => h.resolve_left e, .inr⟩]
      exact Ev.congr (fun k => by rw [if_pos (by omega), if_pos (by omega), if_pos (by omega), rdN, if_neg e, wS (by omega)]) (ih (n + 1) (by omega))
theorem containsI_ev (l : List Int) (x : Int) (hb : l.length < 4611686018427387904) : Ev (fun k => slices_Contains_int_int.f k l x) (l.contains x) :=
  indexI_l0 l x hb l.length 0 (by omega)
/-- Lexicographically. -/
def cmpL : List Int → List Int → Int
  | [], [] => 0
  | [], _ :: _ => -1
  | _ :: _, [] => 1
  | x :: a, y :: b => if x < y then -1 else if x > y then 1 else cmpL a b
theorem cmp1 (x y : Int) : cmp_Compare_int64.f x y = some (if x < y then -1 else if x > y then 1 else 0) := by
  unfold cmp_Compare_int64.f cmp_isNaN_int64.f
  rw [Option.bind_some, Option.bind_some, if_neg (by simp), if_neg (by simp)]
  by_cases h1 : x < y
  · rw [if_pos h1, if_pos h1]
  · by_cases h2 : x > y
    · rw [if_neg h1, if_pos h2, if_neg h1, if_pos h2]
    · rw [if_neg h1, if_neg h2, if_neg h1, if_neg h2]
theorem compare_l0 (a b : List Int) (ha : a.length < 4611686018427387904) (hb : b.length < 4611686018427387904) : ∀ d n, n + d = a.length → n ≤ b.length → Ev (fun k => slices_Compare_int64_int64.l0 k a b a (a.length : Int) (n : Int)) (cmpL (a.drop n) (b.drop n)) := by
  intro d
  induction d with
  | zero =>
    intro n hn hnb
    rw [List.drop_of_length_le (l := a) (by omega)]
    refine Ev_succ ?_
    simp only [slices_Compare_int64_int64.l0]
    refine Ev.congr (fun k => if_neg (by omega)) ?_
    by_cases h : a.length < b.length
    · rw [drop_cons (l := b) (by omega)]
      exact Ev.congr (fun k => if_pos (by omega)) (Ev.now _)
    · rw [List.drop_of_length_le (l := b) (by omega)]
      exact Ev.congr (fun k => if_neg (by omega)) (Ev.now _)
  | succ d ih =>
    intro n hn hnb
    rw [drop_cons (l := a) (by omega)]
    refine Ev_succ ?_
    simp only [slices_Compare_int64_int64.l0]
    refine Ev.congr (fun k => if_pos (by omega)) (Ev.congr (fun k => if_pos (by omega)) (Ev.congr (fun k => if_pos (by omega)) ?_))
    by_cases h : n < b.length
    · rw [drop_cons (l := b) h, cmpL]
      refine Ev.congr (fun k => if_neg (by omega)) (Ev.congr (fun k => if_pos (by omega)) ?_)
      rw [rdN, rdN, cmp1]
      by_cases h1 : a.getD n 0 < b.getD n 0
      · rw [if_pos h1, if_pos h1]
        exact Ev.congr (fun k => (Option.bind_some _ _).trans (if_neg (by decide))) (Ev.now _)
      · rw [if_neg h1, if_neg h1]
        by_cases h2 : a.getD n 0 > b.getD n 0
        · rw [if_pos h2, if_pos h2]
          exact Ev.congr (fun k => (Option.bind_some _ _).trans (if_neg (by decide))) (Ev.now _)
        · rw [if_neg h2, if_neg h2]
          refine Ev.congr (fun k => (Option.bind_some _ _).trans (if_pos rfl)) ?_
          rw [wS (by omega)]
          exact ih (n + 1) (by omega) (by omega)
    · rw [List.drop_of_length_le (l := b) (by omega)]
      exact Ev.congr (fun k => if_pos (by omega)) (Ev.now _)
theorem compare_ev (a b : List Int) (ha : a.length < 4611686018427387904) (hb : b.length < 4611686018427387904) : Ev (fun k => slices_Compare_int64_int64.f k a b) (cmpL a b) :=
  compare_l0 a b ha hb a.length 0 (by omega) (by omega)
end Go.Proofs.Ytfijnlbkflmkbaa.Pure
