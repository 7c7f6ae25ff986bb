/- Plain laws: whether a number stands in a list, on the program's side. -/
import Derived.Test.YtfijnlbkflmkbaaFx155
import Derived.Test.YtfijnlbkflmkbaaPureD
namespace Go.Proofs.Ytfijnlbkflmkbaa.Pure
open Go.RowKit Go.Proofs.Ytfijnlbkflmkbaa.F Go.Proofs.YtfijnlbkflmkbaaW.PrintWords Go.Proofs.YtfijnlbkflmkbaaW.PrintLast

theorem index_none (l : List Int) (x : Int) (hb : l.length < 4611686018427387904) : ∀ d n, n + d = l.length → x ∉ l.drop n → Ev (fun k => slices_Index_int64_int64.l0 k l x (l.length : Int) (n : Int)) (-1) := by
  intro d
  induction d with
  | zero =>
    intro n hn _
    refine Ev.step (f := fun _ => some _) (fun k => ?_) (Ev.now _)
    simp only [slices_Index_int64_int64.l0]; rw [if_neg (by omega)]
  | succ d ih =>
    intro n hn hx
    rw [drop_cons (by omega)] at hx
    refine Ev.step (fun k => ?_) (ih (n + 1) (by omega) (fun h => hx (List.mem_cons_of_mem _ h)))
    simp only [slices_Index_int64_int64.l0]; rw [if_pos (by omega), if_pos (by omega), if_pos (by omega), rdN, if_neg (fun (e : x = l.getD n 0) => hx (e ▸ List.mem_cons_self)), wS (by omega)]
theorem contains_ev (l : List Int) (x : Int) (hb : l.length < 4611686018427387904) : Ev (fun k => slices_Contains_int64_int64.f k l x) (l.contains x) := by
  unfold slices_Contains_int64_int64.f
  by_cases h : x ∈ l
  · refine Ev.bind (index_ev l x hb h) ?_
    rw [show l.contains x = true from List.contains_iff_mem.2 h]
    exact Ev.congr (fun k => by rw [decide_eq_true (by omega)]) (Ev.now _)
  · have h0 : Ev (fun k => slices_Index_int64_int64.f k l x) (-1) := index_none l x hb l.length 0 (by omega) h
    refine Ev.bind h0 ?_
    rw [show l.contains x = false from by simpa using h]
    exact Ev.congr (fun k => by rw [decide_eq_false (by omega)]) (Ev.now _)
end Go.Proofs.Ytfijnlbkflmkbaa.Pure
