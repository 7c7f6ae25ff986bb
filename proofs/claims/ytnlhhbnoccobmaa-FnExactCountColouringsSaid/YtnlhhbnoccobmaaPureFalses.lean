/- Plain laws: a list with one element set; how many are not yet true. -/
import Derived.Test.YtnlhhbnoccobmaaPureD
namespace Go.Proofs.Ytnlhhbnoccobmaa.Pure
open Go.RowKit Go.Proofs.Ytnlhhbnoccobmaa.F Go.Proofs.YtnlhhbnoccobmaaW.PrintWords Go.Proofs.YtnlhhbnoccobmaaW.PrintLast
set_option linter.unusedVariables false
set_option linter.unusedSimpArgs false

theorem getD_set {l : List Int} {i j : Nat} {v : Int} (hi : i < l.length) : (l.set i v).getD j 0 = if j = i then v else l.getD j 0 := by
  rw [List.getD_eq_getElem?_getD, List.getElem?_set, List.getD_eq_getElem?_getD]
  by_cases e : i = j
  · subst e; rw [if_pos rfl, if_pos rfl, if_pos hi]; rfl
  · rw [if_neg e, if_neg (fun h => e h.symm)]
def falses (l : List Bool) : Nat := l.count false
theorem falses_set {l : List Bool} {i : Nat} (h : i < l.length) : falses (l.set i true) ≤ falses l := by
  unfold falses
  rw [List.count_set h]
  simp
theorem falses_set_lt {l : List Bool} {i : Nat} (h : i < l.length) (hf : l.getD i false = false) : falses (l.set i true) < falses l := by
  unfold falses
  have hg : l[i] = false := by rw [List.getD_eq_getElem?_getD, List.getElem?_eq_getElem h] at hf; exact hf
  have hpos : 0 < l.count false := List.count_pos_iff.2 (hg ▸ List.getElem_mem h)
  rw [List.count_set h, hg]
  simp
  omega
end Go.Proofs.Ytnlhhbnoccobmaa.Pure
