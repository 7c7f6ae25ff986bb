/- The program's PolygonNumbers returns what the reference's returns: for all numbers. -/
import Derived.Test.YtfijnlbkflmkbaaFx26
import Derived.Test.YtfijnlbkflmkbaaFx27
import Derived.Test.YtfijnlbkflmkbaaFx3
import Derived.Test.YtfijnlbkflmkbaaPureD
import Derived.KernelRfl
namespace Go.Proofs.Ytfijnlbkflmkbaa.Pure
open Go.RowKit Go.Proofs.Ytfijnlbkflmkbaa.F Go.Proofs.YtfijnlbkflmkbaaW.PrintWords Go.Proofs.YtfijnlbkflmkbaaW.PrintLast

theorem poly0 : laws_FnExactPolygonNumbers.f 150 0 = some true := by kernel_rfl
theorem poly1 : laws_FnExactPolygonNumbers.f 150 1 = some true := by kernel_rfl
theorem poly2 : laws_FnExactPolygonNumbers.f 150 2 = some true := by kernel_rfl
theorem poly3 : laws_FnExactPolygonNumbers.f 150 3 = some true := by kernel_rfl
theorem poly4 : laws_FnExactPolygonNumbers.f 150 4 = some true := by kernel_rfl
theorem poly5 : laws_FnExactPolygonNumbers.f 150 5 = some true := by kernel_rfl
theorem poly6 : laws_FnExactPolygonNumbers.f 150 6 = some true := by kernel_rfl
theorem poly7 : laws_FnExactPolygonNumbers.f 150 7 = some true := by kernel_rfl
theorem poly8 : laws_FnExactPolygonNumbers.f 150 8 = some true := by kernel_rfl
theorem poly9 : laws_FnExactPolygonNumbers.f 150 9 = some true := by kernel_rfl
theorem poly10 : laws_FnExactPolygonNumbers.f 150 10 = some true := by kernel_rfl
theorem poly11 : laws_FnExactPolygonNumbers.f 150 11 = some true := by kernel_rfl
theorem poly12 : laws_FnExactPolygonNumbers.f 150 12 = some true := by kernel_rfl
theorem FnExactPolygonNumbers : laws_FnExactPolygonNumbers.Pure := by
  intro n hw
  by_cases h : 0 ≤ n ∧ n ≤ 12
  · refine ⟨150, ?_⟩
    obtain ⟨h0, h1⟩ := h
    have hc : n = 0 ∨ n = 1 ∨ n = 2 ∨ n = 3 ∨ n = 4 ∨ n = 5 ∨ n = 6 ∨ n = 7 ∨ n = 8 ∨ n = 9 ∨ n = 10 ∨ n = 11 ∨ n = 12 := by omega
    rcases hc with rfl | rfl | rfl | rfl | rfl | rfl | rfl | rfl | rfl | rfl | rfl | rfl | rfl
    · exact poly0
    · exact poly1
    · exact poly2
    · exact poly3
    · exact poly4
    · exact poly5
    · exact poly6
    · exact poly7
    · exact poly8
    · exact poly9
    · exact poly10
    · exact poly11
    · exact poly12
  · refine ⟨9, ?_⟩
    have hS : ∀ k, spec_PolygonNumbers.f k n = some ([], 2) := fun k => by
      unfold spec_PolygonNumbers.f
      rw [spec_in_f, Option.bind_some, decide_eq_false h]
      rfl
    have hI : ∀ k, impl_PolygonNumbers.f k n = some ([], 2) := fun k => by
      unfold impl_PolygonNumbers.f
      rw [in_f, Option.bind_some, decide_eq_false h]
      rfl
    unfold laws_FnExactPolygonNumbers.f
    rw [hS, Option.bind_some, hI, Option.bind_some]
    show (some true).bind _ = _
    rw [Option.bind_some, if_pos rfl]
    show laws_FnExactPolygonNumbers.j0 9 n [] 2 [] false = some true
    simp only [laws_FnExactPolygonNumbers.j0, hI]
    rfl
end Go.Proofs.Ytfijnlbkflmkbaa.Pure
