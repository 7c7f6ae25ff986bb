/- Words, walks and plain laws that the row of the law FnInterlace uses. -/
import Derived.Test.YtcnekpdoldljgaaGreatZFnInterlace5
import Derived.Laws.Bits64
import Derived.Laws.Bits64b
section
namespace Go.Proofs.YtcnekpdoldljgaaGreat.F
open Go.RowKit Go.Proofs.YtcnekpdoldljgaaGreatW.PrintWords Go.Proofs.YtcnekpdoldljgaaGreatW.PrintLast Go.Proofs.YtcnekpdoldljgaaGreatW.PrintMore
attribute [local go_sem] max2_int min2_int max_two min_two max_three min_three max_four min_four   
set_option linter.unusedVariables false
set_option linter.unusedSimpArgs false
mutual
def laws_FnInterlace.j0 : Nat → List Int → List Int → List Int → Int → Bool → Option (Bool)
 | 0, _, _, _, _, _ => none
 | k + 1, x0, x3, x4, x5, x53 => if x53 = true then (some false) else ((spec_DrawValueOfInterlace.f k x0).bind fun bt41014 => ((impl_ValueOfInterlace.f k bt41014.1 bt41014.2).bind fun bt41018 => ((spec_ValueOfInterlace.f k bt41014.1 bt41014.2).bind fun bt41020 => (if bt41018.2 = bt41020.2 then (laws_FnInterlace.j1 k x3 x4 x5 (bt41018.1 != bt41020.1)) else (laws_FnInterlace.j1 k x3 x4 x5 true)))))
def laws_FnInterlace.j1 : Nat → List Int → List Int → Int → Bool → Option (Bool)
 | 0, _, _, _, _ => none
 | k + 1, x3, x4, x5, x78 => if x78 = true then (some false) else ((impl_IndependentNumbers.f k x3).bind fun bt41022 => ((spec_IndependentNumbers.f k x3).bind fun bt41026 => (if bt41022.2 = bt41026.2 then ((laws_likeInts.f k bt41022.1 bt41026.1).bind fun t41030 => (laws_FnInterlace.j2 k x3 x4 x5 bt41022.1 bt41022.2 (!t41030))) else (laws_FnInterlace.j2 k x3 x4 x5 bt41022.1 bt41022.2 true))))
def laws_FnInterlace.j2 : Nat → List Int → List Int → Int → List Int → Int → Bool → Option (Bool)
 | 0, _, _, _, _, _, _ => none
 | k + 1, x3, x4, x5, x14, x15, x97 => if x97 = true then (some false) else ((impl_CliqueNumbers.f k x3).bind fun bt41031 => ((spec_CliqueNumbers.f k x3).bind fun bt41035 => (if bt41031.2 = bt41035.2 then ((laws_likeInts.f k bt41031.1 bt41035.1).bind fun t41039 => (laws_FnInterlace.j3 k x3 x4 x5 x14 x15 bt41031.1 bt41031.2 (!t41039))) else (laws_FnInterlace.j3 k x3 x4 x5 x14 x15 bt41031.1 bt41031.2 true))))
def laws_FnInterlace.j3 : Nat → List Int → List Int → Int → List Int → Int → List Int → Int → Bool → Option (Bool)
 | 0, _, _, _, _, _, _, _, _ => none
 | k + 1, x3, x4, x5, x14, x15, x18, x19, x116 => if x116 = true then (some false) else ((impl_MatchingNumbers.f k x3).bind fun bt41040 => ((spec_MatchingNumbers.f k x3).bind fun bt41044 => (if bt41040.2 = bt41044.2 then ((laws_likeInts.f k bt41040.1 bt41044.1).bind fun t41048 => (laws_FnInterlace.j4 k x3 x4 x5 x14 x15 x18 x19 bt41040.1 bt41040.2 (!t41048))) else (laws_FnInterlace.j4 k x3 x4 x5 x14 x15 x18 x19 bt41040.1 bt41040.2 true))))
def laws_FnInterlace.j4 : Nat → List Int → List Int → Int → List Int → Int → List Int → Int → List Int → Int → Bool → Option (Bool)
 | 0, _, _, _, _, _, _, _, _, _, _ => none
 | k + 1, x3, x4, x5, x14, x15, x18, x19, x22, x23, x135 => if x135 = true then (some false) else (if x5 = 0 then ((impl_ValueOfInterlace.f k x3 2).bind fun bt41049 => ((impl_CountCrossings.f k x3).bind fun bt41051 => (if bt41049.2 = 0 then (if 0 ≤ (IntKind.u64.wrap (wrap64 ((x3.length : Int) / 2))) then (if bt41049.1 = (shl .i64 1 (IntKind.u64.wrap (wrap64 ((x3.length : Int) / 2)))) then (if x15 = 0 then (if x19 = 0 then (if x23 = 0 then (laws_FnInterlace.j5 k x14 x18 x22 (wrap64 ((x3.length : Int) / 2)) bt41051.1 (bt41051.2 != 0)) else (laws_FnInterlace.j5 k x14 x18 x22 (wrap64 ((x3.length : Int) / 2)) bt41051.1 true)) else (laws_FnInterlace.j5 k x14 x18 x22 (wrap64 ((x3.length : Int) / 2)) bt41051.1 true)) else (laws_FnInterlace.j5 k x14 x18 x22 (wrap64 ((x3.length : Int) / 2)) bt41051.1 true)) else (laws_FnInterlace.j5 k x14 x18 x22 (wrap64 ((x3.length : Int) / 2)) bt41051.1 true)) else (none)) else (laws_FnInterlace.j5 k x14 x18 x22 (wrap64 ((x3.length : Int) / 2)) bt41051.1 true)))) else (some ((x4.length : Int) == 0)))
def laws_FnInterlace.j5 : Nat → List Int → List Int → List Int → Int → Int → Bool → Option (Bool)
 | 0, _, _, _, _, _, _ => none
 | k + 1, x14, x18, x22, x28, x29, x178 => if x178 = true then (some false) else (if 0 < (x14.length : Int) then (if (rd x14 0) = 1 then (if 0 < (x18.length : Int) then (if (rd x18 0) = 1 then (if 0 < (x22.length : Int) then (if (rd x22 0) = 1 then (if x28 < 2 then (some true) else (if 1 < (x14.length : Int) then (if (rd x14 1) = x28 then (if 1 < (x18.length : Int) then (if (rd x18 1) = x28 then (if 2 < (x18.length : Int) then (if (rd x18 2) = x29 then (if 2 < (x14.length : Int) then (if (wrap64 ((rd x14 2) + (rd x18 2))) = (wrap64 (Int.tdiv (wrap64 (x28 * (wrap64 (x28 - 1)))) 2)) then (if 1 < (x22.length : Int) then (some ((rd x22 1) == x29)) else (none)) else (some false)) else (none)) else (some false)) else (none)) else (some false)) else (none)) else (some false)) else (none))) else (some false)) else (none)) else (some false)) else (none)) else (some false)) else (none))
end
def laws_FnInterlace.f (k : Nat) (l0 : List Int) : Option (Bool) := (laws_big.f l0).bind fun t41001 => (if t41001 = true then (some true) else ((spec_DrawInterlacePolynomial.f k l0).bind fun t41002 => ((impl_InterlacePolynomial.f k t41002).bind fun bt41005 => ((spec_InterlacePolynomial.f k t41002).bind fun bt41009 => (if bt41005.2 = bt41009.2 then ((laws_likeInts.f k bt41005.1 bt41009.1).bind fun t41013 => (laws_FnInterlace.j0 k l0 t41002 bt41005.1 bt41005.2 (!t41013))) else (laws_FnInterlace.j0 k l0 t41002 bt41005.1 bt41005.2 true))))))
theorem laws_FnInterlace.mono_l : ∀ k, (∀ y0 y1 y2 y3 y4, LeO (laws_FnInterlace.j0 k y0 y1 y2 y3 y4) (laws_FnInterlace.j0 (k + 1) y0 y1 y2 y3 y4)) ∧ (∀ y0 y1 y2 y3, LeO (laws_FnInterlace.j1 k y0 y1 y2 y3) (laws_FnInterlace.j1 (k + 1) y0 y1 y2 y3)) ∧ (∀ y0 y1 y2 y3 y4 y5, LeO (laws_FnInterlace.j2 k y0 y1 y2 y3 y4 y5) (laws_FnInterlace.j2 (k + 1) y0 y1 y2 y3 y4 y5)) ∧ (∀ y0 y1 y2 y3 y4 y5 y6 y7, LeO (laws_FnInterlace.j3 k y0 y1 y2 y3 y4 y5 y6 y7) (laws_FnInterlace.j3 (k + 1) y0 y1 y2 y3 y4 y5 y6 y7)) ∧ (∀ y0 y1 y2 y3 y4 y5 y6 y7 y8 y9, LeO (laws_FnInterlace.j4 k y0 y1 y2 y3 y4 y5 y6 y7 y8 y9) (laws_FnInterlace.j4 (k + 1) y0 y1 y2 y3 y4 y5 y6 y7 y8 y9)) ∧ (∀ y0 y1 y2 y3 y4 y5, LeO (laws_FnInterlace.j5 k y0 y1 y2 y3 y4 y5) (laws_FnInterlace.j5 (k + 1) y0 y1 y2 y3 y4 y5))
 | 0 => ⟨fun _ _ _ _ _ r h => by simp [laws_FnInterlace.j0] at h, fun _ _ _ _ r h => by simp [laws_FnInterlace.j1] at h, fun _ _ _ _ _ _ r h => by simp [laws_FnInterlace.j2] at h, fun _ _ _ _ _ _ _ _ r h => by simp [laws_FnInterlace.j3] at h, fun _ _ _ _ _ _ _ _ _ _ r h => by simp [laws_FnInterlace.j4] at h, fun _ _ _ _ _ _ r h => by simp [laws_FnInterlace.j5] at h⟩
 | k + 1 => by
  obtain ⟨ih0, ih1, ih2, ih3, ih4, ih5⟩ := laws_FnInterlace.mono_l k
  refine ⟨?_, ?_, ?_, ?_, ?_, ?_⟩
  ·intro y0 y1 y2 y3 y4
   unfold laws_FnInterlace.j0
   repeat' first
   | (with_reducible exact ih0 _ _ _ _ _)
   | (with_reducible exact ih1 _ _ _ _)
   | (with_reducible exact ih2 _ _ _ _ _ _)
   | (with_reducible exact ih3 _ _ _ _ _ _ _ _)
   | (with_reducible exact ih4 _ _ _ _ _ _ _ _ _ _)
   | (with_reducible exact ih5 _ _ _ _ _ _)
   | (with_reducible exact impl_CliqueNumbers.mono _ _)
   | (with_reducible exact impl_CountCrossings.mono _ _)
   | (with_reducible exact impl_IndependentNumbers.mono _ _)
   | (with_reducible exact impl_InterlacePolynomial.mono _ _)
   | (with_reducible exact impl_MatchingNumbers.mono _ _)
   | (with_reducible exact impl_ValueOfInterlace.mono _ _ _)
   | (with_reducible exact laws_likeInts.mono _ _ _)
   | (with_reducible exact spec_CliqueNumbers.mono _ _)
   | (with_reducible exact spec_DrawInterlacePolynomial.mono _ _)
   | (with_reducible exact spec_DrawValueOfInterlace.mono _ _)
   | (with_reducible exact spec_IndependentNumbers.mono _ _)
   | (with_reducible exact spec_InterlacePolynomial.mono _ _)
   | (with_reducible exact spec_MatchingNumbers.mono _ _)
   | (with_reducible exact spec_ValueOfInterlace.mono _ _ _)
   | (with_reducible exact LeO.refl _)
   | (with_reducible exact LeO.none _)
   | (with_reducible refine LeO.ite ?_ ?_)
   | (with_reducible refine LeO.bind ?_ (fun _ => ?_))
   | exact ih0 _ _ _ _ _
   | exact ih1 _ _ _ _
   | exact ih2 _ _ _ _ _ _
   | exact ih3 _ _ _ _ _ _ _ _
   | exact ih4 _ _ _ _ _ _ _ _ _ _
   | exact ih5 _ _ _ _ _ _
   | exact impl_CliqueNumbers.mono _ _
   | exact impl_CountCrossings.mono _ _
   | exact impl_IndependentNumbers.mono _ _
   | exact impl_InterlacePolynomial.mono _ _
   | exact impl_MatchingNumbers.mono _ _
   | exact impl_ValueOfInterlace.mono _ _ _
   | exact laws_likeInts.mono _ _ _
   | exact spec_CliqueNumbers.mono _ _
   | exact spec_DrawInterlacePolynomial.mono _ _
   | exact spec_DrawValueOfInterlace.mono _ _
   | exact spec_IndependentNumbers.mono _ _
   | exact spec_InterlacePolynomial.mono _ _
   | exact spec_MatchingNumbers.mono _ _
   | exact spec_ValueOfInterlace.mono _ _ _
   | exact LeO.none _
   | refine LeO.ite ?_ ?_
   | refine LeO.bind ?_ (fun _ => ?_)
  ·intro y0 y1 y2 y3
   unfold laws_FnInterlace.j1
   repeat' first
   | (with_reducible exact ih0 _ _ _ _ _)
   | (with_reducible exact ih1 _ _ _ _)
   | (with_reducible exact ih2 _ _ _ _ _ _)
   | (with_reducible exact ih3 _ _ _ _ _ _ _ _)
   | (with_reducible exact ih4 _ _ _ _ _ _ _ _ _ _)
   | (with_reducible exact ih5 _ _ _ _ _ _)
   | (with_reducible exact impl_CliqueNumbers.mono _ _)
   | (with_reducible exact impl_CountCrossings.mono _ _)
   | (with_reducible exact impl_IndependentNumbers.mono _ _)
   | (with_reducible exact impl_InterlacePolynomial.mono _ _)
   | (with_reducible exact impl_MatchingNumbers.mono _ _)
   | (with_reducible exact impl_ValueOfInterlace.mono _ _ _)
   | (with_reducible exact laws_likeInts.mono _ _ _)
   | (with_reducible exact spec_CliqueNumbers.mono _ _)
   | (with_reducible exact spec_DrawInterlacePolynomial.mono _ _)
   | (with_reducible exact spec_DrawValueOfInterlace.mono _ _)
   | (with_reducible exact spec_IndependentNumbers.mono _ _)
   | (with_reducible exact spec_InterlacePolynomial.mono _ _)
   | (with_reducible exact spec_MatchingNumbers.mono _ _)
   | (with_reducible exact spec_ValueOfInterlace.mono _ _ _)
   | (with_reducible exact LeO.refl _)
   | (with_reducible exact LeO.none _)
   | (with_reducible refine LeO.ite ?_ ?_)
   | (with_reducible refine LeO.bind ?_ (fun _ => ?_))
   | exact ih0 _ _ _ _ _
   | exact ih1 _ _ _ _
   | exact ih2 _ _ _ _ _ _
   | exact ih3 _ _ _ _ _ _ _ _
   | exact ih4 _ _ _ _ _ _ _ _ _ _
   | exact ih5 _ _ _ _ _ _
   | exact impl_CliqueNumbers.mono _ _
   | exact impl_CountCrossings.mono _ _
   | exact impl_IndependentNumbers.mono _ _
   | exact impl_InterlacePolynomial.mono _ _
   | exact impl_MatchingNumbers.mono _ _
   | exact impl_ValueOfInterlace.mono _ _ _
   | exact laws_likeInts.mono _ _ _
   | exact spec_CliqueNumbers.mono _ _
   | exact spec_DrawInterlacePolynomial.mono _ _
   | exact spec_DrawValueOfInterlace.mono _ _
   | exact spec_IndependentNumbers.mono _ _
   | exact spec_InterlacePolynomial.mono _ _
   | exact spec_MatchingNumbers.mono _ _
   | exact spec_ValueOfInterlace.mono _ _ _
   | exact LeO.none _
   | refine LeO.ite ?_ ?_
   | refine LeO.bind ?_ (fun _ => ?_)
  ·intro y0 y1 y2 y3 y4 y5
   unfold laws_FnInterlace.j2
   repeat' first
   | (with_reducible exact ih0 _ _ _ _ _)
   | (with_reducible exact ih1 _ _ _ _)
   | (with_reducible exact ih2 _ _ _ _ _ _)
   | (with_reducible exact ih3 _ _ _ _ _ _ _ _)
   | (with_reducible exact ih4 _ _ _ _ _ _ _ _ _ _)
   | (with_reducible exact ih5 _ _ _ _ _ _)
   | (with_reducible exact impl_CliqueNumbers.mono _ _)
   | (with_reducible exact impl_CountCrossings.mono _ _)
   | (with_reducible exact impl_IndependentNumbers.mono _ _)
   | (with_reducible exact impl_InterlacePolynomial.mono _ _)
   | (with_reducible exact impl_MatchingNumbers.mono _ _)
   | (with_reducible exact impl_ValueOfInterlace.mono _ _ _)
   | (with_reducible exact laws_likeInts.mono _ _ _)
   | (with_reducible exact spec_CliqueNumbers.mono _ _)
   | (with_reducible exact spec_DrawInterlacePolynomial.mono _ _)
   | (with_reducible exact spec_DrawValueOfInterlace.mono _ _)
   | (with_reducible exact spec_IndependentNumbers.mono _ _)
   | (with_reducible exact spec_InterlacePolynomial.mono _ _)
   | (with_reducible exact spec_MatchingNumbers.mono _ _)
   | (with_reducible exact spec_ValueOfInterlace.mono _ _ _)
   | (with_reducible exact LeO.refl _)
   | (with_reducible exact LeO.none _)
   | (with_reducible refine LeO.ite ?_ ?_)
   | (with_reducible refine LeO.bind ?_ (fun _ => ?_))
   | exact ih0 _ _ _ _ _
   | exact ih1 _ _ _ _
   | exact ih2 _ _ _ _ _ _
   | exact ih3 _ _ _ _ _ _ _ _
   | exact ih4 _ _ _ _ _ _ _ _ _ _
   | exact ih5 _ _ _ _ _ _
   | exact impl_CliqueNumbers.mono _ _
   | exact impl_CountCrossings.mono _ _
   | exact impl_IndependentNumbers.mono _ _
   | exact impl_InterlacePolynomial.mono _ _
   | exact impl_MatchingNumbers.mono _ _
   | exact impl_ValueOfInterlace.mono _ _ _
   | exact laws_likeInts.mono _ _ _
   | exact spec_CliqueNumbers.mono _ _
   | exact spec_DrawInterlacePolynomial.mono _ _
   | exact spec_DrawValueOfInterlace.mono _ _
   | exact spec_IndependentNumbers.mono _ _
   | exact spec_InterlacePolynomial.mono _ _
   | exact spec_MatchingNumbers.mono _ _
   | exact spec_ValueOfInterlace.mono _ _ _
   | exact LeO.none _
   | refine LeO.ite ?_ ?_
   | refine LeO.bind ?_ (fun _ => ?_)
  ·intro y0 y1 y2 y3 y4 y5 y6 y7
   unfold laws_FnInterlace.j3
   repeat' first
   | (with_reducible exact ih0 _ _ _ _ _)
   | (with_reducible exact ih1 _ _ _ _)
   | (with_reducible exact ih2 _ _ _ _ _ _)
   | (with_reducible exact ih3 _ _ _ _ _ _ _ _)
   | (with_reducible exact ih4 _ _ _ _ _ _ _ _ _ _)
   | (with_reducible exact ih5 _ _ _ _ _ _)
   | (with_reducible exact impl_CliqueNumbers.mono _ _)
   | (with_reducible exact impl_CountCrossings.mono _ _)
   | (with_reducible exact impl_IndependentNumbers.mono _ _)
   | (with_reducible exact impl_InterlacePolynomial.mono _ _)
   | (with_reducible exact impl_MatchingNumbers.mono _ _)
   | (with_reducible exact impl_ValueOfInterlace.mono _ _ _)
   | (with_reducible exact laws_likeInts.mono _ _ _)
   | (with_reducible exact spec_CliqueNumbers.mono _ _)
   | (with_reducible exact spec_DrawInterlacePolynomial.mono _ _)
   | (with_reducible exact spec_DrawValueOfInterlace.mono _ _)
   | (with_reducible exact spec_IndependentNumbers.mono _ _)
   | (with_reducible exact spec_InterlacePolynomial.mono _ _)
   | (with_reducible exact spec_MatchingNumbers.mono _ _)
   | (with_reducible exact spec_ValueOfInterlace.mono _ _ _)
   | (with_reducible exact LeO.refl _)
   | (with_reducible exact LeO.none _)
   | (with_reducible refine LeO.ite ?_ ?_)
   | (with_reducible refine LeO.bind ?_ (fun _ => ?_))
   | exact ih0 _ _ _ _ _
   | exact ih1 _ _ _ _
   | exact ih2 _ _ _ _ _ _
   | exact ih3 _ _ _ _ _ _ _ _
   | exact ih4 _ _ _ _ _ _ _ _ _ _
   | exact ih5 _ _ _ _ _ _
   | exact impl_CliqueNumbers.mono _ _
   | exact impl_CountCrossings.mono _ _
   | exact impl_IndependentNumbers.mono _ _
   | exact impl_InterlacePolynomial.mono _ _
   | exact impl_MatchingNumbers.mono _ _
   | exact impl_ValueOfInterlace.mono _ _ _
   | exact laws_likeInts.mono _ _ _
   | exact spec_CliqueNumbers.mono _ _
   | exact spec_DrawInterlacePolynomial.mono _ _
   | exact spec_DrawValueOfInterlace.mono _ _
   | exact spec_IndependentNumbers.mono _ _
   | exact spec_InterlacePolynomial.mono _ _
   | exact spec_MatchingNumbers.mono _ _
   | exact spec_ValueOfInterlace.mono _ _ _
   | exact LeO.none _
   | refine LeO.ite ?_ ?_
   | refine LeO.bind ?_ (fun _ => ?_)
  ·intro y0 y1 y2 y3 y4 y5 y6 y7 y8 y9
   unfold laws_FnInterlace.j4
   repeat' first
   | (with_reducible exact ih0 _ _ _ _ _)
   | (with_reducible exact ih1 _ _ _ _)
   | (with_reducible exact ih2 _ _ _ _ _ _)
   | (with_reducible exact ih3 _ _ _ _ _ _ _ _)
   | (with_reducible exact ih4 _ _ _ _ _ _ _ _ _ _)
   | (with_reducible exact ih5 _ _ _ _ _ _)
   | (with_reducible exact impl_CliqueNumbers.mono _ _)
   | (with_reducible exact impl_CountCrossings.mono _ _)
   | (with_reducible exact impl_IndependentNumbers.mono _ _)
   | (with_reducible exact impl_InterlacePolynomial.mono _ _)
   | (with_reducible exact impl_MatchingNumbers.mono _ _)
   | (with_reducible exact impl_ValueOfInterlace.mono _ _ _)
   | (with_reducible exact laws_likeInts.mono _ _ _)
   | (with_reducible exact spec_CliqueNumbers.mono _ _)
   | (with_reducible exact spec_DrawInterlacePolynomial.mono _ _)
   | (with_reducible exact spec_DrawValueOfInterlace.mono _ _)
   | (with_reducible exact spec_IndependentNumbers.mono _ _)
   | (with_reducible exact spec_InterlacePolynomial.mono _ _)
   | (with_reducible exact spec_MatchingNumbers.mono _ _)
   | (with_reducible exact spec_ValueOfInterlace.mono _ _ _)
   | (with_reducible exact LeO.refl _)
   | (with_reducible exact LeO.none _)
   | (with_reducible refine LeO.ite ?_ ?_)
   | (with_reducible refine LeO.bind ?_ (fun _ => ?_))
   | exact ih0 _ _ _ _ _
   | exact ih1 _ _ _ _
   | exact ih2 _ _ _ _ _ _
   | exact ih3 _ _ _ _ _ _ _ _
   | exact ih4 _ _ _ _ _ _ _ _ _ _
   | exact ih5 _ _ _ _ _ _
   | exact impl_CliqueNumbers.mono _ _
   | exact impl_CountCrossings.mono _ _
   | exact impl_IndependentNumbers.mono _ _
   | exact impl_InterlacePolynomial.mono _ _
   | exact impl_MatchingNumbers.mono _ _
   | exact impl_ValueOfInterlace.mono _ _ _
   | exact laws_likeInts.mono _ _ _
   | exact spec_CliqueNumbers.mono _ _
   | exact spec_DrawInterlacePolynomial.mono _ _
   | exact spec_DrawValueOfInterlace.mono _ _
   | exact spec_IndependentNumbers.mono _ _
   | exact spec_InterlacePolynomial.mono _ _
   | exact spec_MatchingNumbers.mono _ _
   | exact spec_ValueOfInterlace.mono _ _ _
   | exact LeO.none _
   | refine LeO.ite ?_ ?_
   | refine LeO.bind ?_ (fun _ => ?_)
  ·intro y0 y1 y2 y3 y4 y5
   unfold laws_FnInterlace.j5
   repeat' first
   | (with_reducible exact ih0 _ _ _ _ _)
   | (with_reducible exact ih1 _ _ _ _)
   | (with_reducible exact ih2 _ _ _ _ _ _)
   | (with_reducible exact ih3 _ _ _ _ _ _ _ _)
   | (with_reducible exact ih4 _ _ _ _ _ _ _ _ _ _)
   | (with_reducible exact ih5 _ _ _ _ _ _)
   | (with_reducible exact impl_CliqueNumbers.mono _ _)
   | (with_reducible exact impl_CountCrossings.mono _ _)
   | (with_reducible exact impl_IndependentNumbers.mono _ _)
   | (with_reducible exact impl_InterlacePolynomial.mono _ _)
   | (with_reducible exact impl_MatchingNumbers.mono _ _)
   | (with_reducible exact impl_ValueOfInterlace.mono _ _ _)
   | (with_reducible exact laws_likeInts.mono _ _ _)
   | (with_reducible exact spec_CliqueNumbers.mono _ _)
   | (with_reducible exact spec_DrawInterlacePolynomial.mono _ _)
   | (with_reducible exact spec_DrawValueOfInterlace.mono _ _)
   | (with_reducible exact spec_IndependentNumbers.mono _ _)
   | (with_reducible exact spec_InterlacePolynomial.mono _ _)
   | (with_reducible exact spec_MatchingNumbers.mono _ _)
   | (with_reducible exact spec_ValueOfInterlace.mono _ _ _)
   | (with_reducible exact LeO.refl _)
   | (with_reducible exact LeO.none _)
   | (with_reducible refine LeO.ite ?_ ?_)
   | (with_reducible refine LeO.bind ?_ (fun _ => ?_))
   | exact ih0 _ _ _ _ _
   | exact ih1 _ _ _ _
   | exact ih2 _ _ _ _ _ _
   | exact ih3 _ _ _ _ _ _ _ _
   | exact ih4 _ _ _ _ _ _ _ _ _ _
   | exact ih5 _ _ _ _ _ _
   | exact impl_CliqueNumbers.mono _ _
   | exact impl_CountCrossings.mono _ _
   | exact impl_IndependentNumbers.mono _ _
   | exact impl_InterlacePolynomial.mono _ _
   | exact impl_MatchingNumbers.mono _ _
   | exact impl_ValueOfInterlace.mono _ _ _
   | exact laws_likeInts.mono _ _ _
   | exact spec_CliqueNumbers.mono _ _
   | exact spec_DrawInterlacePolynomial.mono _ _
   | exact spec_DrawValueOfInterlace.mono _ _
   | exact spec_IndependentNumbers.mono _ _
   | exact spec_InterlacePolynomial.mono _ _
   | exact spec_MatchingNumbers.mono _ _
   | exact spec_ValueOfInterlace.mono _ _ _
   | exact LeO.none _
   | refine LeO.ite ?_ ?_
   | refine LeO.bind ?_ (fun _ => ?_)
theorem laws_FnInterlace.mono : ∀ a0 k, LeO (laws_FnInterlace.f k a0) (laws_FnInterlace.f (k + 1) a0) := by
 intro a0 k
 obtain ⟨ih0, ih1, ih2, ih3, ih4, ih5⟩ := laws_FnInterlace.mono_l k
 unfold laws_FnInterlace.f
 repeat' first
   | (with_reducible exact ih0 _ _ _ _ _)
   | (with_reducible exact ih1 _ _ _ _)
   | (with_reducible exact ih2 _ _ _ _ _ _)
   | (with_reducible exact ih3 _ _ _ _ _ _ _ _)
   | (with_reducible exact ih4 _ _ _ _ _ _ _ _ _ _)
   | (with_reducible exact ih5 _ _ _ _ _ _)
   | (with_reducible exact impl_CliqueNumbers.mono _ _)
   | (with_reducible exact impl_CountCrossings.mono _ _)
   | (with_reducible exact impl_IndependentNumbers.mono _ _)
   | (with_reducible exact impl_InterlacePolynomial.mono _ _)
   | (with_reducible exact impl_MatchingNumbers.mono _ _)
   | (with_reducible exact impl_ValueOfInterlace.mono _ _ _)
   | (with_reducible exact laws_likeInts.mono _ _ _)
   | (with_reducible exact spec_CliqueNumbers.mono _ _)
   | (with_reducible exact spec_DrawInterlacePolynomial.mono _ _)
   | (with_reducible exact spec_DrawValueOfInterlace.mono _ _)
   | (with_reducible exact spec_IndependentNumbers.mono _ _)
   | (with_reducible exact spec_InterlacePolynomial.mono _ _)
   | (with_reducible exact spec_MatchingNumbers.mono _ _)
   | (with_reducible exact spec_ValueOfInterlace.mono _ _ _)
   | (with_reducible exact LeO.refl _)
   | (with_reducible exact LeO.none _)
   | (with_reducible refine LeO.ite ?_ ?_)
   | (with_reducible refine LeO.bind ?_ (fun _ => ?_))
   | exact ih0 _ _ _ _ _
   | exact ih1 _ _ _ _
   | exact ih2 _ _ _ _ _ _
   | exact ih3 _ _ _ _ _ _ _ _
   | exact ih4 _ _ _ _ _ _ _ _ _ _
   | exact ih5 _ _ _ _ _ _
   | exact impl_CliqueNumbers.mono _ _
   | exact impl_CountCrossings.mono _ _
   | exact impl_IndependentNumbers.mono _ _
   | exact impl_InterlacePolynomial.mono _ _
   | exact impl_MatchingNumbers.mono _ _
   | exact impl_ValueOfInterlace.mono _ _ _
   | exact laws_likeInts.mono _ _ _
   | exact spec_CliqueNumbers.mono _ _
   | exact spec_DrawInterlacePolynomial.mono _ _
   | exact spec_DrawValueOfInterlace.mono _ _
   | exact spec_IndependentNumbers.mono _ _
   | exact spec_InterlacePolynomial.mono _ _
   | exact spec_MatchingNumbers.mono _ _
   | exact spec_ValueOfInterlace.mono _ _ _
   | exact LeO.none _
   | refine LeO.ite ?_ ?_
   | refine LeO.bind ?_ (fun _ => ?_)
theorem laws_FnInterlace.j0_true (k : Nat) (y0 : List Int) (y1 : List Int) (y2 : List Int) (y3 : Int) (r : Bool) (hr : r = true) (h : laws_FnInterlace.j0 k y0 y1 y2 y3 true = some r) : False := by
 subst hr
 cases k with
 | zero => simp [laws_FnInterlace.j0] at h
 | succ k => simp [laws_FnInterlace.j0] at h
theorem laws_FnInterlace.j1_true (k : Nat) (y0 : List Int) (y1 : List Int) (y2 : Int) (r : Bool) (hr : r = true) (h : laws_FnInterlace.j1 k y0 y1 y2 true = some r) : False := by
 subst hr
 cases k with
 | zero => simp [laws_FnInterlace.j1] at h
 | succ k => simp [laws_FnInterlace.j1] at h
theorem laws_FnInterlace.j2_true (k : Nat) (y0 : List Int) (y1 : List Int) (y2 : Int) (y3 : List Int) (y4 : Int) (r : Bool) (hr : r = true) (h : laws_FnInterlace.j2 k y0 y1 y2 y3 y4 true = some r) : False := by
 subst hr
 cases k with
 | zero => simp [laws_FnInterlace.j2] at h
 | succ k => simp [laws_FnInterlace.j2] at h
theorem laws_FnInterlace.j3_true (k : Nat) (y0 : List Int) (y1 : List Int) (y2 : Int) (y3 : List Int) (y4 : Int) (y5 : List Int) (y6 : Int) (r : Bool) (hr : r = true) (h : laws_FnInterlace.j3 k y0 y1 y2 y3 y4 y5 y6 true = some r) : False := by
 subst hr
 cases k with
 | zero => simp [laws_FnInterlace.j3] at h
 | succ k => simp [laws_FnInterlace.j3] at h
theorem laws_FnInterlace.j4_true (k : Nat) (y0 : List Int) (y1 : List Int) (y2 : Int) (y3 : List Int) (y4 : Int) (y5 : List Int) (y6 : Int) (y7 : List Int) (y8 : Int) (r : Bool) (hr : r = true) (h : laws_FnInterlace.j4 k y0 y1 y2 y3 y4 y5 y6 y7 y8 true = some r) : False := by
 subst hr
 cases k with
 | zero => simp [laws_FnInterlace.j4] at h
 | succ k => simp [laws_FnInterlace.j4] at h
theorem laws_FnInterlace.j5_true (k : Nat) (y0 : List Int) (y1 : List Int) (y2 : List Int) (y3 : Int) (y4 : Int) (r : Bool) (hr : r = true) (h : laws_FnInterlace.j5 k y0 y1 y2 y3 y4 true = some r) : False := by
 subst hr
 cases k with
 | zero => simp [laws_FnInterlace.j5] at h
 | succ k => simp [laws_FnInterlace.j5] at h
set_option maxHeartbeats 8000000 in
set_option maxRecDepth 100000 in
theorem laws_FnInterlace.calls (k : Nat) (A0 : Option Addr) (c0 : Nat) (l0 : List Int) (r : Bool) (w : World) (hr0 : Kd.C (Kd.int .u8) w A0 l0.length l0) (hc0 : l0.length ≤ c0) (h : laws_FnInterlace.f k l0 = some r) (hrT : r = true) :
  Calls Tryz.prog 4 #[.slice A0 l0.length c0] w fun e w' => e = .returned (.bool r) ∧ Below w.heap.size w w' := by
 have HRT := Aside0.mk hrT
 clear hrT
 have HR0 := Aside0.mk hr0
 have HC0 := Aside0.mk hc0
 clear hr0 hc0
 have HB := Aside0.mk (Below.refl w.heap.size w)
 have H : ((laws_big.f l0).bind fun t41001 => (if t41001 = true then (some true) else ((spec_DrawInterlacePolynomial.f k l0).bind fun t41002 => ((impl_InterlacePolynomial.f k t41002).bind fun bt41005 => ((spec_InterlacePolynomial.f k t41002).bind fun bt41009 => (if bt41005.2 = bt41009.2 then ((laws_likeInts.f k bt41005.1 bt41009.1).bind fun t41013 => (laws_FnInterlace.j0 k l0 t41002 bt41005.1 bt41005.2 (!t41013))) else (laws_FnInterlace.j0 k l0 t41002 bt41005.1 bt41005.2 true))))))) = some r := h
 clear h
 replace H := Option.bind_eq_some_iff.mp H
 obtain ⟨t41001, A20, H⟩ := H
 replace H : (if t41001 = true then (some true) else ((spec_DrawInterlacePolynomial.f k l0).bind fun t41002 => ((impl_InterlacePolynomial.f k t41002).bind fun bt41005 => ((spec_InterlacePolynomial.f k t41002).bind fun bt41009 => (if bt41005.2 = bt41009.2 then ((laws_likeInts.f k bt41005.1 bt41009.1).bind fun t41013 => (laws_FnInterlace.j0 k l0 t41002 bt41005.1 bt41005.2 (!t41013))) else (laws_FnInterlace.j0 k l0 t41002 bt41005.1 bt41005.2 true)))))) = some r := H
 have A2 := Aside0.mk A20
 clear A20
 by_cases c3 : t41001 = true
 ·subst c3
  have H1 : (some true) = some r := by rw [if_pos rfl] at H; exact H
  clear H
  have H := H1
  clear H1
  obtain rfl := Option.some.inj H
  go_enter Tryz.func4, Tryz.ntmps4
  go_wp2_with (first | (go_at_call 14; (with_reducible refine (laws_big.calls _ _ l0 true _ ?side1 ?side2 A2.out).mono ?_); (case side1 => repeat (first | exact HR0.out | (with_reducible refine Kd.C_alloc ?_ _) | (with_reducible refine Kd.C_drewN ?_ _) | (with_reducible refine Kd.C_drew ?_))); (case side2 => exact HC0.out); rintro e w' ⟨rfl, ⟨nd, rfl⟩⟩; (try first | exact ⟨rfl, _, World.drewN_drewN _ _ _⟩ | exact ⟨rfl, _, Eq.trans (World.drewN_drewN _ _ _) (congrArg (World.drewN _) (Nat.add_assoc _ _ _))⟩)))
  repeat (go_quiet (first | (go_at_call 14; (with_reducible refine (laws_big.calls _ _ l0 true _ ?side1 ?side2 A2.out).mono ?_); (case side1 => repeat (first | exact HR0.out | (with_reducible refine Kd.C_alloc ?_ _) | (with_reducible refine Kd.C_drewN ?_ _) | (with_reducible refine Kd.C_drew ?_))); (case side2 => exact HC0.out); rintro e w' ⟨rfl, ⟨nd, rfl⟩⟩; (try first | exact ⟨rfl, _, World.drewN_drewN _ _ _⟩ | exact ⟨rfl, _, Eq.trans (World.drewN_drewN _ _ _) (congrArg (World.drewN _) (Nat.add_assoc _ _ _))⟩))); try go_wp2_with (first | (go_at_call 14; (with_reducible refine (laws_big.calls _ _ l0 true _ ?side1 ?side2 A2.out).mono ?_); (case side1 => repeat (first | exact HR0.out | (with_reducible refine Kd.C_alloc ?_ _) | (with_reducible refine Kd.C_drewN ?_ _) | (with_reducible refine Kd.C_drew ?_))); (case side2 => exact HC0.out); rintro e w' ⟨rfl, ⟨nd, rfl⟩⟩; (try first | exact ⟨rfl, _, World.drewN_drewN _ _ _⟩ | exact ⟨rfl, _, Eq.trans (World.drewN_drewN _ _ _) (congrArg (World.drewN _) (Nat.add_assoc _ _ _))⟩))))
  go_ret
  exact ⟨by first | rfl | (simp [errW_none, errW_some] <;> rfl) | (simp [*, errW_none, errW_some] <;> rfl), by repeat (first | (with_reducible first | exact HB.out | apply below_alloc | apply pw_below_drewN | apply below_drew1) | exact HB.out)⟩
 replace c3 := Bool.eq_false_iff.mpr c3
 subst c3
 have H1 : ((spec_DrawInterlacePolynomial.f k l0).bind fun t41002 => ((impl_InterlacePolynomial.f k t41002).bind fun bt41005 => ((spec_InterlacePolynomial.f k t41002).bind fun bt41009 => (if bt41005.2 = bt41009.2 then ((laws_likeInts.f k bt41005.1 bt41009.1).bind fun t41013 => (laws_FnInterlace.j0 k l0 t41002 bt41005.1 bt41005.2 (!t41013))) else (laws_FnInterlace.j0 k l0 t41002 bt41005.1 bt41005.2 true))))) = some r := by rw [if_neg (show ¬ (false = true) by decide)] at H; exact H
 clear H
 have H := H1
 clear H1
 replace H := Option.bind_eq_some_iff.mp H
 obtain ⟨t41002, A40, H⟩ := H
 replace H : ((impl_InterlacePolynomial.f k t41002).bind fun bt41005 => ((spec_InterlacePolynomial.f k t41002).bind fun bt41009 => (if bt41005.2 = bt41009.2 then ((laws_likeInts.f k bt41005.1 bt41009.1).bind fun t41013 => (laws_FnInterlace.j0 k l0 t41002 bt41005.1 bt41005.2 (!t41013))) else (laws_FnInterlace.j0 k l0 t41002 bt41005.1 bt41005.2 true)))) = some r := H
 have A4 := Aside0.mk A40
 clear A40
 replace H := Option.bind_eq_some_iff.mp H
 obtain ⟨⟨t41005, t41006⟩, A50, H⟩ := H
 replace H : ((spec_InterlacePolynomial.f k t41002).bind fun bt41009 => (if t41006 = bt41009.2 then ((laws_likeInts.f k t41005 bt41009.1).bind fun t41013 => (laws_FnInterlace.j0 k l0 t41002 t41005 t41006 (!t41013))) else (laws_FnInterlace.j0 k l0 t41002 t41005 t41006 true))) = some r := H
 have A5 := Aside0.mk A50
 clear A50
 replace H := Option.bind_eq_some_iff.mp H
 obtain ⟨⟨t41009, t41010⟩, A60, H⟩ := H
 replace H : (if t41006 = t41010 then ((laws_likeInts.f k t41005 t41009).bind fun t41013 => (laws_FnInterlace.j0 k l0 t41002 t41005 t41006 (!t41013))) else (laws_FnInterlace.j0 k l0 t41002 t41005 t41006 true)) = some r := H
 have A6 := Aside0.mk A60
 clear A60
 have HC7 := Aside0.mk H
 clear H
 go_enter Tryz.func4, Tryz.ntmps4
 go_upto_region 6 with (first | (go_at_call 14; (with_reducible refine (laws_big.calls _ _ l0 false _ ?side1 ?side2 A2.out).mono ?_); (case side1 => repeat (first | exact HR0.out | (with_reducible refine Kd.C_alloc ?_ _) | (with_reducible refine Kd.C_drewN ?_ _) | (with_reducible refine Kd.C_drew ?_))); (case side2 => exact HC0.out); rintro e w' ⟨rfl, ⟨nd, rfl⟩⟩; (try first | exact ⟨rfl, _, World.drewN_drewN _ _ _⟩ | exact ⟨rfl, _, Eq.trans (World.drewN_drewN _ _ _) (congrArg (World.drewN _) (Nat.add_assoc _ _ _))⟩)) | (go_at_call 15; (with_reducible refine (spec_DrawInterlacePolynomial.calls k _ _ l0 t41002 _ ?side1 ?side2 A4.out).mono ?_); (case side1 => repeat (first | exact HR0.out | (with_reducible refine Kd.C_alloc ?_ _) | (with_reducible refine Kd.C_drewN ?_ _) | (with_reducible refine Kd.C_drew ?_))); (case side2 => exact HC0.out); rintro e w8 ⟨v41003, rfl, ho0, hb⟩; have n0_ := Aside0.mk (Kd.R_lower ho0 (below_size (by repeat (first | (with_reducible first | exact HB.out | apply below_alloc | apply pw_below_drewN | apply below_drew1) | exact HB.out)))); have n1_ := Aside0.mk (below_step (by repeat (first | (with_reducible first | exact HB.out | apply below_alloc | apply pw_below_drewN | apply below_drew1) | exact HB.out)) hb); clear HB; have HO41004 := n0_; have HB := n1_; clear n0_ n1_; (try clear hb); (try clear hb2); (try clear hk); (try clear hi); (try clear ho0); obtain ⟨Ao9, co9, eo9⟩ := Kd.R_slice HO41004.out; subst eo9) | (go_at_call 16; (with_reducible refine (impl_InterlacePolynomial.calls k _ _ t41002 t41005 t41006 _ ?side1 ?side2 A5.out).mono ?_); (case side1 => repeat (first | exact (Kd.R_reads' HO41004.out).2.2 | (with_reducible refine Kd.C_alloc ?_ _) | (with_reducible refine Kd.C_drewN ?_ _) | (with_reducible refine Kd.C_drew ?_))); (case side2 => exact (Kd.R_reads' HO41004.out).2.1); rintro e w10 ⟨v41007, rfl, ho0, hb⟩; have n0_ := Aside0.mk (Kd.R_elder' (by (with_reducible repeat (first | apply Kd.R_alloc | apply Kd.R_drewN | apply Kd.R_drew)); exact HO41004.out) (Kd.R_base ho0) hb); have n1_ := Aside0.mk (Kd.R_lower (Kd.R_new' ho0 (Kd.R_lt (by (with_reducible repeat (first | apply Kd.R_alloc | apply Kd.R_drewN | apply Kd.R_drew)); exact HO41004.out))) (below_size (by repeat (first | (with_reducible first | exact HB.out | apply below_alloc | apply pw_below_drewN | apply below_drew1) | exact HB.out)))); have n2_ := Aside0.mk (below_step (by repeat (first | (with_reducible first | exact HB.out | apply below_alloc | apply pw_below_drewN | apply below_drew1) | exact HB.out)) hb); clear HO41004; clear HB; have HO41004 := n0_; have HO41008 := n1_; have HB := n2_; clear n0_ n1_ n2_; (try clear hb); (try clear hb2); (try clear hk); (try clear hi); (try clear ho0)) | (go_at_call 17; (with_reducible refine (spec_InterlacePolynomial.calls k _ _ t41002 t41009 t41010 _ ?side1 ?side2 A6.out).mono ?_); (case side1 => repeat (first | exact (Kd.R_reads' HO41004.out).2.2 | (with_reducible refine Kd.C_alloc ?_ _) | (with_reducible refine Kd.C_drewN ?_ _) | (with_reducible refine Kd.C_drew ?_))); (case side2 => exact (Kd.R_reads' HO41004.out).2.1); rintro e w11 ⟨v41011, rfl, ho0, hb⟩; have n0_ := Aside0.mk (Kd.R_elder' (by (with_reducible repeat (first | apply Kd.R_alloc | apply Kd.R_drewN | apply Kd.R_drew)); exact HO41004.out) (Kd.R_base ho0) hb); have n1_ := Aside0.mk (Kd.R_elder' (by (with_reducible repeat (first | apply Kd.R_alloc | apply Kd.R_drewN | apply Kd.R_drew)); exact HO41008.out) (Kd.R_base ho0) hb); have n2_ := Aside0.mk (Kd.R_lower (Kd.R_new' (Kd.R_new' ho0 (Kd.R_lt (by (with_reducible repeat (first | apply Kd.R_alloc | apply Kd.R_drewN | apply Kd.R_drew)); exact HO41004.out))) (Kd.R_lt (by (with_reducible repeat (first | apply Kd.R_alloc | apply Kd.R_drewN | apply Kd.R_drew)); exact HO41008.out))) (below_size (by repeat (first | (with_reducible first | exact HB.out | apply below_alloc | apply pw_below_drewN | apply below_drew1) | exact HB.out)))); have n3_ := Aside0.mk (below_step (by repeat (first | (with_reducible first | exact HB.out | apply below_alloc | apply pw_below_drewN | apply below_drew1) | exact HB.out)) hb); clear HO41004; clear HO41008; clear HB; have HO41004 := n0_; have HO41008 := n1_; have HO41012 := n2_; have HB := n3_; clear n0_ n1_ n2_ n3_; (try clear hb); (try clear hb2); (try clear hk); (try clear hi); (try clear ho0)))
 repeat (go_quiet (first | (go_at_call 14; (with_reducible refine (laws_big.calls _ _ l0 false _ ?side1 ?side2 A2.out).mono ?_); (case side1 => repeat (first | exact HR0.out | (with_reducible refine Kd.C_alloc ?_ _) | (with_reducible refine Kd.C_drewN ?_ _) | (with_reducible refine Kd.C_drew ?_))); (case side2 => exact HC0.out); rintro e w' ⟨rfl, ⟨nd, rfl⟩⟩; (try first | exact ⟨rfl, _, World.drewN_drewN _ _ _⟩ | exact ⟨rfl, _, Eq.trans (World.drewN_drewN _ _ _) (congrArg (World.drewN _) (Nat.add_assoc _ _ _))⟩)) | (go_at_call 15; (with_reducible refine (spec_DrawInterlacePolynomial.calls k _ _ l0 t41002 _ ?side1 ?side2 A4.out).mono ?_); (case side1 => repeat (first | exact HR0.out | (with_reducible refine Kd.C_alloc ?_ _) | (with_reducible refine Kd.C_drewN ?_ _) | (with_reducible refine Kd.C_drew ?_))); (case side2 => exact HC0.out); rintro e w8 ⟨v41003, rfl, ho0, hb⟩; have n0_ := Aside0.mk (Kd.R_lower ho0 (below_size (by repeat (first | (with_reducible first | exact HB.out | apply below_alloc | apply pw_below_drewN | apply below_drew1) | exact HB.out)))); have n1_ := Aside0.mk (below_step (by repeat (first | (with_reducible first | exact HB.out | apply below_alloc | apply pw_below_drewN | apply below_drew1) | exact HB.out)) hb); clear HB; have HO41004 := n0_; have HB := n1_; clear n0_ n1_; (try clear hb); (try clear hb2); (try clear hk); (try clear hi); (try clear ho0); obtain ⟨Ao9, co9, eo9⟩ := Kd.R_slice HO41004.out; subst eo9) | (go_at_call 16; (with_reducible refine (impl_InterlacePolynomial.calls k _ _ t41002 t41005 t41006 _ ?side1 ?side2 A5.out).mono ?_); (case side1 => repeat (first | exact (Kd.R_reads' HO41004.out).2.2 | (with_reducible refine Kd.C_alloc ?_ _) | (with_reducible refine Kd.C_drewN ?_ _) | (with_reducible refine Kd.C_drew ?_))); (case side2 => exact (Kd.R_reads' HO41004.out).2.1); rintro e w10 ⟨v41007, rfl, ho0, hb⟩; have n0_ := Aside0.mk (Kd.R_elder' (by (with_reducible repeat (first | apply Kd.R_alloc | apply Kd.R_drewN | apply Kd.R_drew)); exact HO41004.out) (Kd.R_base ho0) hb); have n1_ := Aside0.mk (Kd.R_lower (Kd.R_new' ho0 (Kd.R_lt (by (with_reducible repeat (first | apply Kd.R_alloc | apply Kd.R_drewN | apply Kd.R_drew)); exact HO41004.out))) (below_size (by repeat (first | (with_reducible first | exact HB.out | apply below_alloc | apply pw_below_drewN | apply below_drew1) | exact HB.out)))); have n2_ := Aside0.mk (below_step (by repeat (first | (with_reducible first | exact HB.out | apply below_alloc | apply pw_below_drewN | apply below_drew1) | exact HB.out)) hb); clear HO41004; clear HB; have HO41004 := n0_; have HO41008 := n1_; have HB := n2_; clear n0_ n1_ n2_; (try clear hb); (try clear hb2); (try clear hk); (try clear hi); (try clear ho0)) | (go_at_call 17; (with_reducible refine (spec_InterlacePolynomial.calls k _ _ t41002 t41009 t41010 _ ?side1 ?side2 A6.out).mono ?_); (case side1 => repeat (first | exact (Kd.R_reads' HO41004.out).2.2 | (with_reducible refine Kd.C_alloc ?_ _) | (with_reducible refine Kd.C_drewN ?_ _) | (with_reducible refine Kd.C_drew ?_))); (case side2 => exact (Kd.R_reads' HO41004.out).2.1); rintro e w11 ⟨v41011, rfl, ho0, hb⟩; have n0_ := Aside0.mk (Kd.R_elder' (by (with_reducible repeat (first | apply Kd.R_alloc | apply Kd.R_drewN | apply Kd.R_drew)); exact HO41004.out) (Kd.R_base ho0) hb); have n1_ := Aside0.mk (Kd.R_elder' (by (with_reducible repeat (first | apply Kd.R_alloc | apply Kd.R_drewN | apply Kd.R_drew)); exact HO41008.out) (Kd.R_base ho0) hb); have n2_ := Aside0.mk (Kd.R_lower (Kd.R_new' (Kd.R_new' ho0 (Kd.R_lt (by (with_reducible repeat (first | apply Kd.R_alloc | apply Kd.R_drewN | apply Kd.R_drew)); exact HO41004.out))) (Kd.R_lt (by (with_reducible repeat (first | apply Kd.R_alloc | apply Kd.R_drewN | apply Kd.R_drew)); exact HO41008.out))) (below_size (by repeat (first | (with_reducible first | exact HB.out | apply below_alloc | apply pw_below_drewN | apply below_drew1) | exact HB.out)))); have n3_ := Aside0.mk (below_step (by repeat (first | (with_reducible first | exact HB.out | apply below_alloc | apply pw_below_drewN | apply below_drew1) | exact HB.out)) hb); clear HO41004; clear HO41008; clear HB; have HO41004 := n0_; have HO41008 := n1_; have HO41012 := n2_; have HB := n3_; clear n0_ n1_ n2_ n3_; (try clear hb); (try clear hb2); (try clear hk); (try clear hi); (try clear ho0))); go_upto_region 6 with (first | (go_at_call 14; (with_reducible refine (laws_big.calls _ _ l0 false _ ?side1 ?side2 A2.out).mono ?_); (case side1 => repeat (first | exact HR0.out | (with_reducible refine Kd.C_alloc ?_ _) | (with_reducible refine Kd.C_drewN ?_ _) | (with_reducible refine Kd.C_drew ?_))); (case side2 => exact HC0.out); rintro e w' ⟨rfl, ⟨nd, rfl⟩⟩; (try first | exact ⟨rfl, _, World.drewN_drewN _ _ _⟩ | exact ⟨rfl, _, Eq.trans (World.drewN_drewN _ _ _) (congrArg (World.drewN _) (Nat.add_assoc _ _ _))⟩)) | (go_at_call 15; (with_reducible refine (spec_DrawInterlacePolynomial.calls k _ _ l0 t41002 _ ?side1 ?side2 A4.out).mono ?_); (case side1 => repeat (first | exact HR0.out | (with_reducible refine Kd.C_alloc ?_ _) | (with_reducible refine Kd.C_drewN ?_ _) | (with_reducible refine Kd.C_drew ?_))); (case side2 => exact HC0.out); rintro e w8 ⟨v41003, rfl, ho0, hb⟩; have n0_ := Aside0.mk (Kd.R_lower ho0 (below_size (by repeat (first | (with_reducible first | exact HB.out | apply below_alloc | apply pw_below_drewN | apply below_drew1) | exact HB.out)))); have n1_ := Aside0.mk (below_step (by repeat (first | (with_reducible first | exact HB.out | apply below_alloc | apply pw_below_drewN | apply below_drew1) | exact HB.out)) hb); clear HB; have HO41004 := n0_; have HB := n1_; clear n0_ n1_; (try clear hb); (try clear hb2); (try clear hk); (try clear hi); (try clear ho0); obtain ⟨Ao9, co9, eo9⟩ := Kd.R_slice HO41004.out; subst eo9) | (go_at_call 16; (with_reducible refine (impl_InterlacePolynomial.calls k _ _ t41002 t41005 t41006 _ ?side1 ?side2 A5.out).mono ?_); (case side1 => repeat (first | exact (Kd.R_reads' HO41004.out).2.2 | (with_reducible refine Kd.C_alloc ?_ _) | (with_reducible refine Kd.C_drewN ?_ _) | (with_reducible refine Kd.C_drew ?_))); (case side2 => exact (Kd.R_reads' HO41004.out).2.1); rintro e w10 ⟨v41007, rfl, ho0, hb⟩; have n0_ := Aside0.mk (Kd.R_elder' (by (with_reducible repeat (first | apply Kd.R_alloc | apply Kd.R_drewN | apply Kd.R_drew)); exact HO41004.out) (Kd.R_base ho0) hb); have n1_ := Aside0.mk (Kd.R_lower (Kd.R_new' ho0 (Kd.R_lt (by (with_reducible repeat (first | apply Kd.R_alloc | apply Kd.R_drewN | apply Kd.R_drew)); exact HO41004.out))) (below_size (by repeat (first | (with_reducible first | exact HB.out | apply below_alloc | apply pw_below_drewN | apply below_drew1) | exact HB.out)))); have n2_ := Aside0.mk (below_step (by repeat (first | (with_reducible first | exact HB.out | apply below_alloc | apply pw_below_drewN | apply below_drew1) | exact HB.out)) hb); clear HO41004; clear HB; have HO41004 := n0_; have HO41008 := n1_; have HB := n2_; clear n0_ n1_ n2_; (try clear hb); (try clear hb2); (try clear hk); (try clear hi); (try clear ho0)) | (go_at_call 17; (with_reducible refine (spec_InterlacePolynomial.calls k _ _ t41002 t41009 t41010 _ ?side1 ?side2 A6.out).mono ?_); (case side1 => repeat (first | exact (Kd.R_reads' HO41004.out).2.2 | (with_reducible refine Kd.C_alloc ?_ _) | (with_reducible refine Kd.C_drewN ?_ _) | (with_reducible refine Kd.C_drew ?_))); (case side2 => exact (Kd.R_reads' HO41004.out).2.1); rintro e w11 ⟨v41011, rfl, ho0, hb⟩; have n0_ := Aside0.mk (Kd.R_elder' (by (with_reducible repeat (first | apply Kd.R_alloc | apply Kd.R_drewN | apply Kd.R_drew)); exact HO41004.out) (Kd.R_base ho0) hb); have n1_ := Aside0.mk (Kd.R_elder' (by (with_reducible repeat (first | apply Kd.R_alloc | apply Kd.R_drewN | apply Kd.R_drew)); exact HO41008.out) (Kd.R_base ho0) hb); have n2_ := Aside0.mk (Kd.R_lower (Kd.R_new' (Kd.R_new' ho0 (Kd.R_lt (by (with_reducible repeat (first | apply Kd.R_alloc | apply Kd.R_drewN | apply Kd.R_drew)); exact HO41004.out))) (Kd.R_lt (by (with_reducible repeat (first | apply Kd.R_alloc | apply Kd.R_drewN | apply Kd.R_drew)); exact HO41008.out))) (below_size (by repeat (first | (with_reducible first | exact HB.out | apply below_alloc | apply pw_below_drewN | apply below_drew1) | exact HB.out)))); have n3_ := Aside0.mk (below_step (by repeat (first | (with_reducible first | exact HB.out | apply below_alloc | apply pw_below_drewN | apply below_drew1) | exact HB.out)) hb); clear HO41004; clear HO41008; clear HB; have HO41004 := n0_; have HO41008 := n1_; have HO41012 := n2_; have HB := n3_; clear n0_ n1_ n2_ n3_; (try clear hb); (try clear hb2); (try clear hk); (try clear hi); (try clear ho0))))
 (try simp only [Act.put, List.setIfInBounds_toArray, List.set_cons_zero, List.set_cons_succ])
 go_cut [53] (fun v53 wc => ∃ (kq : Nat) (x53_6 : Bool), v53 = .bool x53_6 ∧ Aside0 (laws_FnInterlace.j0 kq l0 t41002 t41005 t41006 x53_6 = some r) ∧ Aside0 (kq ≤ k) ∧ Aside0 (Kd.R (Kd.int .i64) 2 wc w.heap.size (fun k_ => some k_ ≠ (v41007 : Value).ownBlock) (.slice Ao9 t41002.length co9) t41002) ∧ Aside0 (Kd.R (Kd.int .i64) 2 wc w.heap.size (fun k_ => some k_ ≠ ((.slice Ao9 t41002.length co9) : Value).ownBlock) v41007 t41005) ∧ Aside0 (Below w.heap.size w wc))
 case first => as_aux_lemma =>
  have H := HC7.out
  clear HC7
  by_cases c12 : t41006 = t41010
  rotate_left
  ·rw [if_neg c12] at H
   exact (laws_FnInterlace.j0_true _ _ _ _ _ _ HRT.out H).elim
  rw [if_pos c12] at H
  have c12b0 : (t41006 == t41010) = true := beq_iff_eq.mpr c12
  have c12b1 : (t41006 != t41010) = false := bne_eq_false_iff_eq.mpr c12
  clear c12
  (first | rw [c12b0] | (simp only [i64_w, i32_w]; rw [c12b0]) | skip)
  replace H := Option.bind_eq_some_iff.mp H
  obtain ⟨t41013, A130, H⟩ := H
  replace H : (laws_FnInterlace.j0 k l0 t41002 t41005 t41006 (!t41013)) = some r := H
  have A13 := Aside0.mk A130
  clear A130
  have H' := Aside0.mk H
  clear H
  obtain ⟨Ao14, co14, eo14⟩ := Kd.R_slice HO41008.out
  subst eo14
  obtain ⟨Ao15, co15, eo15⟩ := Kd.R_slice HO41012.out
  subst eo15
  go_wp2_with (first | (go_at_call 18; (with_reducible refine (laws_likeInts.calls k _ _ t41005 _ _ t41009 t41013 _ ?side1 ?side2 ?side3 ?side4 A13.out).mono ?_); (case side1 => repeat (first | exact (Kd.R_reads' HO41008.out).2.2 | (with_reducible refine Kd.C_alloc ?_ _) | (with_reducible refine Kd.C_drewN ?_ _) | (with_reducible refine Kd.C_drew ?_))); (case side2 => exact (Kd.R_reads' HO41008.out).2.1); (case side3 => repeat (first | exact (Kd.R_reads' HO41012.out).2.2 | (with_reducible refine Kd.C_alloc ?_ _) | (with_reducible refine Kd.C_drewN ?_ _) | (with_reducible refine Kd.C_drew ?_))); (case side4 => exact (Kd.R_reads' HO41012.out).2.1); rintro e w' ⟨rfl, ⟨nd, rfl⟩⟩; (try first | exact ⟨rfl, _, World.drewN_drewN _ _ _⟩ | exact ⟨rfl, _, Eq.trans (World.drewN_drewN _ _ _) (congrArg (World.drewN _) (Nat.add_assoc _ _ _))⟩)))
  repeat (go_quiet (first | (go_at_call 18; (with_reducible refine (laws_likeInts.calls k _ _ t41005 _ _ t41009 t41013 _ ?side1 ?side2 ?side3 ?side4 A13.out).mono ?_); (case side1 => repeat (first | exact (Kd.R_reads' HO41008.out).2.2 | (with_reducible refine Kd.C_alloc ?_ _) | (with_reducible refine Kd.C_drewN ?_ _) | (with_reducible refine Kd.C_drew ?_))); (case side2 => exact (Kd.R_reads' HO41008.out).2.1); (case side3 => repeat (first | exact (Kd.R_reads' HO41012.out).2.2 | (with_reducible refine Kd.C_alloc ?_ _) | (with_reducible refine Kd.C_drewN ?_ _) | (with_reducible refine Kd.C_drew ?_))); (case side4 => exact (Kd.R_reads' HO41012.out).2.1); rintro e w' ⟨rfl, ⟨nd, rfl⟩⟩; (try first | exact ⟨rfl, _, World.drewN_drewN _ _ _⟩ | exact ⟨rfl, _, Eq.trans (World.drewN_drewN _ _ _) (congrArg (World.drewN _) (Nat.add_assoc _ _ _))⟩))); try go_wp2_with (first | (go_at_call 18; (with_reducible refine (laws_likeInts.calls k _ _ t41005 _ _ t41009 t41013 _ ?side1 ?side2 ?side3 ?side4 A13.out).mono ?_); (case side1 => repeat (first | exact (Kd.R_reads' HO41008.out).2.2 | (with_reducible refine Kd.C_alloc ?_ _) | (with_reducible refine Kd.C_drewN ?_ _) | (with_reducible refine Kd.C_drew ?_))); (case side2 => exact (Kd.R_reads' HO41008.out).2.1); (case side3 => repeat (first | exact (Kd.R_reads' HO41012.out).2.2 | (with_reducible refine Kd.C_alloc ?_ _) | (with_reducible refine Kd.C_drewN ?_ _) | (with_reducible refine Kd.C_drew ?_))); (case side4 => exact (Kd.R_reads' HO41012.out).2.1); rintro e w' ⟨rfl, ⟨nd, rfl⟩⟩; (try first | exact ⟨rfl, _, World.drewN_drewN _ _ _⟩ | exact ⟨rfl, _, Eq.trans (World.drewN_drewN _ _ _) (congrArg (World.drewN _) (Nat.add_assoc _ _ _))⟩))))
  go_meet
  case rel => exact ⟨_, (!t41013), (by first | rfl | (simp; done) | (simp [*]; done)), H', ⟨by first | omega | exact Nat.le_refl _⟩, ⟨by (with_reducible repeat (first | apply Kd.R_alloc | apply Kd.R_drewN | apply Kd.R_drew)); exact Kd.R_mono HO41004.out (fun _ hk => hk.1.2)⟩, ⟨by (with_reducible repeat (first | apply Kd.R_alloc | apply Kd.R_drewN | apply Kd.R_drew)); exact Kd.R_mono HO41008.out (fun _ hk => hk.1.2)⟩, ⟨by repeat (first | (with_reducible first | exact HB.out | apply below_alloc | apply pw_below_drewN | apply below_drew1) | exact HB.out)⟩⟩
 case rest => as_aux_lemma =>
  clear HC7
  try clear c1
  try clear p2
  try clear c3
  try clear c4
  try clear c12
  try clear c12b0
  try clear c12b1
  obtain ⟨kq, x53_6, rfl, HA, HJ6, HO_3, HO_4, HB⟩ := hcut
  cases kq with
  | zero => exact absurd HA.out (by simp [laws_FnInterlace.j0])
  | succ kj6 =>
   have H := HA.out
   clear HA
   simp only [laws_FnInterlace.j0] at H
   by_cases c16 : x53_6 = true
   ·subst c16
    have H1 : (some false) = some r := by rw [if_pos rfl] at H; exact H
    clear H
    have H := H1
    clear H1
    exact absurd ((Option.some.inj H).trans HRT.out) (by decide)
   replace c16 := Bool.eq_false_iff.mpr c16
   subst c16
   have H1 : ((spec_DrawValueOfInterlace.f kj6 l0).bind fun bt41014 => ((impl_ValueOfInterlace.f kj6 bt41014.1 bt41014.2).bind fun bt41018 => ((spec_ValueOfInterlace.f kj6 bt41014.1 bt41014.2).bind fun bt41020 => (if bt41018.2 = bt41020.2 then (laws_FnInterlace.j1 kj6 t41002 t41005 t41006 (bt41018.1 != bt41020.1)) else (laws_FnInterlace.j1 kj6 t41002 t41005 t41006 true))))) = some r := by rw [if_neg (show ¬ (false = true) by decide)] at H; exact H
   clear H
   have H := H1
   clear H1
   replace H := Option.bind_eq_some_iff.mp H
   obtain ⟨⟨t41014, t41015⟩, A170, H⟩ := H
   replace H : ((impl_ValueOfInterlace.f kj6 t41014 t41015).bind fun bt41018 => ((spec_ValueOfInterlace.f kj6 t41014 t41015).bind fun bt41020 => (if bt41018.2 = bt41020.2 then (laws_FnInterlace.j1 kj6 t41002 t41005 t41006 (bt41018.1 != bt41020.1)) else (laws_FnInterlace.j1 kj6 t41002 t41005 t41006 true)))) = some r := H
   have A17 := Aside0.mk A170
   clear A170
   replace H := Option.bind_eq_some_iff.mp H
   obtain ⟨⟨t41018, t41019⟩, A180, H⟩ := H
   replace H : ((spec_ValueOfInterlace.f kj6 t41014 t41015).bind fun bt41020 => (if t41019 = bt41020.2 then (laws_FnInterlace.j1 kj6 t41002 t41005 t41006 (t41018 != bt41020.1)) else (laws_FnInterlace.j1 kj6 t41002 t41005 t41006 true))) = some r := H
   have A18 := Aside0.mk A180
   clear A180
   replace H := Option.bind_eq_some_iff.mp H
   obtain ⟨⟨t41020, t41021⟩, A190, H⟩ := H
   replace H : (if t41019 = t41021 then (laws_FnInterlace.j1 kj6 t41002 t41005 t41006 (t41018 != t41020)) else (laws_FnInterlace.j1 kj6 t41002 t41005 t41006 true)) = some r := H
   have A19 := Aside0.mk A190
   clear A190
   have HC20 := Aside0.mk H
   clear H
   go_upto_region 11 with (first | (go_at_call 19; (with_reducible refine (spec_DrawValueOfInterlace.calls kj6 _ _ l0 t41014 t41015 _ ?side1 ?side2 A17.out).mono ?_); (case side1 => repeat (first | exact (Kd.C_below HR0.out HB.out) | (with_reducible refine Kd.C_alloc ?_ _) | (with_reducible refine Kd.C_drewN ?_ _) | (with_reducible refine Kd.C_drew ?_))); (case side2 => exact HC0.out); rintro e w21 ⟨v41016, rfl, ho0, hb⟩; have n0_ := Aside0.mk (Kd.R_elder' (by (with_reducible repeat (first | apply Kd.R_alloc | apply Kd.R_drewN | apply Kd.R_drew)); exact HO_3.out) (Kd.R_base ho0) hb); have n1_ := Aside0.mk (Kd.R_elder' (by (with_reducible repeat (first | apply Kd.R_alloc | apply Kd.R_drewN | apply Kd.R_drew)); exact HO_4.out) (Kd.R_base ho0) hb); have n2_ := Aside0.mk (Kd.R_lower (Kd.R_new' (Kd.R_new' ho0 (Kd.R_lt (by (with_reducible repeat (first | apply Kd.R_alloc | apply Kd.R_drewN | apply Kd.R_drew)); exact HO_3.out))) (Kd.R_lt (by (with_reducible repeat (first | apply Kd.R_alloc | apply Kd.R_drewN | apply Kd.R_drew)); exact HO_4.out))) (below_size (by repeat (first | (with_reducible first | exact HB.out | apply below_alloc | apply pw_below_drewN | apply below_drew1) | exact HB.out)))); have n3_ := Aside0.mk (below_step (by repeat (first | (with_reducible first | exact HB.out | apply below_alloc | apply pw_below_drewN | apply below_drew1) | exact HB.out)) hb); clear HO_3; clear HO_4; clear HB; have HO_3 := n0_; have HO_4 := n1_; have HO41017 := n2_; have HB := n3_; clear n0_ n1_ n2_ n3_; (try clear hb); (try clear hb2); (try clear hk); (try clear hi); (try clear ho0); obtain ⟨Ao22, co22, eo22⟩ := Kd.R_slice HO41017.out; subst eo22) | (go_at_call 20; (with_reducible refine (impl_ValueOfInterlace.calls kj6 _ _ t41014 t41015 t41018 t41019 _ ?side1 ?side2 A18.out).mono ?_); (case side1 => repeat (first | exact (Kd.R_reads' HO41017.out).2.2 | (with_reducible refine Kd.C_alloc ?_ _) | (with_reducible refine Kd.C_drewN ?_ _) | (with_reducible refine Kd.C_drew ?_))); (case side2 => exact (Kd.R_reads' HO41017.out).2.1); rintro e w23 ⟨rfl, hb⟩; have n0_ := Aside0.mk (Kd.R_below (by (with_reducible repeat (first | apply Kd.R_alloc | apply Kd.R_drewN | apply Kd.R_drew)); exact HO_3.out) hb); have n1_ := Aside0.mk (Kd.R_below (by (with_reducible repeat (first | apply Kd.R_alloc | apply Kd.R_drewN | apply Kd.R_drew)); exact HO_4.out) hb); have n2_ := Aside0.mk (Kd.R_below (by (with_reducible repeat (first | apply Kd.R_alloc | apply Kd.R_drewN | apply Kd.R_drew)); exact HO41017.out) hb); have n3_ := Aside0.mk (below_step (by repeat (first | (with_reducible first | exact HB.out | apply below_alloc | apply pw_below_drewN | apply below_drew1) | exact HB.out)) hb); clear HO_3; clear HO_4; clear HO41017; clear HB; have HO_3 := n0_; have HO_4 := n1_; have HO41017 := n2_; have HB := n3_; clear n0_ n1_ n2_ n3_; (try clear hb); (try clear hb2); (try clear hk); (try clear hi)) | (go_at_call 21; (with_reducible refine (spec_ValueOfInterlace.calls kj6 _ _ t41014 t41015 t41020 t41021 _ ?side1 ?side2 A19.out).mono ?_); (case side1 => repeat (first | exact (Kd.R_reads' HO41017.out).2.2 | (with_reducible refine Kd.C_alloc ?_ _) | (with_reducible refine Kd.C_drewN ?_ _) | (with_reducible refine Kd.C_drew ?_))); (case side2 => exact (Kd.R_reads' HO41017.out).2.1); rintro e w24 ⟨rfl, hb⟩; have n0_ := Aside0.mk (Kd.R_below (by (with_reducible repeat (first | apply Kd.R_alloc | apply Kd.R_drewN | apply Kd.R_drew)); exact HO_3.out) hb); have n1_ := Aside0.mk (Kd.R_below (by (with_reducible repeat (first | apply Kd.R_alloc | apply Kd.R_drewN | apply Kd.R_drew)); exact HO_4.out) hb); have n2_ := Aside0.mk (Kd.R_below (by (with_reducible repeat (first | apply Kd.R_alloc | apply Kd.R_drewN | apply Kd.R_drew)); exact HO41017.out) hb); have n3_ := Aside0.mk (below_step (by repeat (first | (with_reducible first | exact HB.out | apply below_alloc | apply pw_below_drewN | apply below_drew1) | exact HB.out)) hb); clear HO_3; clear HO_4; clear HO41017; clear HB; have HO_3 := n0_; have HO_4 := n1_; have HO41017 := n2_; have HB := n3_; clear n0_ n1_ n2_ n3_; (try clear hb); (try clear hb2); (try clear hk); (try clear hi)))
   repeat (go_quiet (first | (go_at_call 19; (with_reducible refine (spec_DrawValueOfInterlace.calls kj6 _ _ l0 t41014 t41015 _ ?side1 ?side2 A17.out).mono ?_); (case side1 => repeat (first | exact (Kd.C_below HR0.out HB.out) | (with_reducible refine Kd.C_alloc ?_ _) | (with_reducible refine Kd.C_drewN ?_ _) | (with_reducible refine Kd.C_drew ?_))); (case side2 => exact HC0.out); rintro e w21 ⟨v41016, rfl, ho0, hb⟩; have n0_ := Aside0.mk (Kd.R_elder' (by (with_reducible repeat (first | apply Kd.R_alloc | apply Kd.R_drewN | apply Kd.R_drew)); exact HO_3.out) (Kd.R_base ho0) hb); have n1_ := Aside0.mk (Kd.R_elder' (by (with_reducible repeat (first | apply Kd.R_alloc | apply Kd.R_drewN | apply Kd.R_drew)); exact HO_4.out) (Kd.R_base ho0) hb); have n2_ := Aside0.mk (Kd.R_lower (Kd.R_new' (Kd.R_new' ho0 (Kd.R_lt (by (with_reducible repeat (first | apply Kd.R_alloc | apply Kd.R_drewN | apply Kd.R_drew)); exact HO_3.out))) (Kd.R_lt (by (with_reducible repeat (first | apply Kd.R_alloc | apply Kd.R_drewN | apply Kd.R_drew)); exact HO_4.out))) (below_size (by repeat (first | (with_reducible first | exact HB.out | apply below_alloc | apply pw_below_drewN | apply below_drew1) | exact HB.out)))); have n3_ := Aside0.mk (below_step (by repeat (first | (with_reducible first | exact HB.out | apply below_alloc | apply pw_below_drewN | apply below_drew1) | exact HB.out)) hb); clear HO_3; clear HO_4; clear HB; have HO_3 := n0_; have HO_4 := n1_; have HO41017 := n2_; have HB := n3_; clear n0_ n1_ n2_ n3_; (try clear hb); (try clear hb2); (try clear hk); (try clear hi); (try clear ho0); obtain ⟨Ao22, co22, eo22⟩ := Kd.R_slice HO41017.out; subst eo22) | (go_at_call 20; (with_reducible refine (impl_ValueOfInterlace.calls kj6 _ _ t41014 t41015 t41018 t41019 _ ?side1 ?side2 A18.out).mono ?_); (case side1 => repeat (first | exact (Kd.R_reads' HO41017.out).2.2 | (with_reducible refine Kd.C_alloc ?_ _) | (with_reducible refine Kd.C_drewN ?_ _) | (with_reducible refine Kd.C_drew ?_))); (case side2 => exact (Kd.R_reads' HO41017.out).2.1); rintro e w23 ⟨rfl, hb⟩; have n0_ := Aside0.mk (Kd.R_below (by (with_reducible repeat (first | apply Kd.R_alloc | apply Kd.R_drewN | apply Kd.R_drew)); exact HO_3.out) hb); have n1_ := Aside0.mk (Kd.R_below (by (with_reducible repeat (first | apply Kd.R_alloc | apply Kd.R_drewN | apply Kd.R_drew)); exact HO_4.out) hb); have n2_ := Aside0.mk (Kd.R_below (by (with_reducible repeat (first | apply Kd.R_alloc | apply Kd.R_drewN | apply Kd.R_drew)); exact HO41017.out) hb); have n3_ := Aside0.mk (below_step (by repeat (first | (with_reducible first | exact HB.out | apply below_alloc | apply pw_below_drewN | apply below_drew1) | exact HB.out)) hb); clear HO_3; clear HO_4; clear HO41017; clear HB; have HO_3 := n0_; have HO_4 := n1_; have HO41017 := n2_; have HB := n3_; clear n0_ n1_ n2_ n3_; (try clear hb); (try clear hb2); (try clear hk); (try clear hi)) | (go_at_call 21; (with_reducible refine (spec_ValueOfInterlace.calls kj6 _ _ t41014 t41015 t41020 t41021 _ ?side1 ?side2 A19.out).mono ?_); (case side1 => repeat (first | exact (Kd.R_reads' HO41017.out).2.2 | (with_reducible refine Kd.C_alloc ?_ _) | (with_reducible refine Kd.C_drewN ?_ _) | (with_reducible refine Kd.C_drew ?_))); (case side2 => exact (Kd.R_reads' HO41017.out).2.1); rintro e w24 ⟨rfl, hb⟩; have n0_ := Aside0.mk (Kd.R_below (by (with_reducible repeat (first | apply Kd.R_alloc | apply Kd.R_drewN | apply Kd.R_drew)); exact HO_3.out) hb); have n1_ := Aside0.mk (Kd.R_below (by (with_reducible repeat (first | apply Kd.R_alloc | apply Kd.R_drewN | apply Kd.R_drew)); exact HO_4.out) hb); have n2_ := Aside0.mk (Kd.R_below (by (with_reducible repeat (first | apply Kd.R_alloc | apply Kd.R_drewN | apply Kd.R_drew)); exact HO41017.out) hb); have n3_ := Aside0.mk (below_step (by repeat (first | (with_reducible first | exact HB.out | apply below_alloc | apply pw_below_drewN | apply below_drew1) | exact HB.out)) hb); clear HO_3; clear HO_4; clear HO41017; clear HB; have HO_3 := n0_; have HO_4 := n1_; have HO41017 := n2_; have HB := n3_; clear n0_ n1_ n2_ n3_; (try clear hb); (try clear hb2); (try clear hk); (try clear hi))); go_upto_region 11 with (first | (go_at_call 19; (with_reducible refine (spec_DrawValueOfInterlace.calls kj6 _ _ l0 t41014 t41015 _ ?side1 ?side2 A17.out).mono ?_); (case side1 => repeat (first | exact (Kd.C_below HR0.out HB.out) | (with_reducible refine Kd.C_alloc ?_ _) | (with_reducible refine Kd.C_drewN ?_ _) | (with_reducible refine Kd.C_drew ?_))); (case side2 => exact HC0.out); rintro e w21 ⟨v41016, rfl, ho0, hb⟩; have n0_ := Aside0.mk (Kd.R_elder' (by (with_reducible repeat (first | apply Kd.R_alloc | apply Kd.R_drewN | apply Kd.R_drew)); exact HO_3.out) (Kd.R_base ho0) hb); have n1_ := Aside0.mk (Kd.R_elder' (by (with_reducible repeat (first | apply Kd.R_alloc | apply Kd.R_drewN | apply Kd.R_drew)); exact HO_4.out) (Kd.R_base ho0) hb); have n2_ := Aside0.mk (Kd.R_lower (Kd.R_new' (Kd.R_new' ho0 (Kd.R_lt (by (with_reducible repeat (first | apply Kd.R_alloc | apply Kd.R_drewN | apply Kd.R_drew)); exact HO_3.out))) (Kd.R_lt (by (with_reducible repeat (first | apply Kd.R_alloc | apply Kd.R_drewN | apply Kd.R_drew)); exact HO_4.out))) (below_size (by repeat (first | (with_reducible first | exact HB.out | apply below_alloc | apply pw_below_drewN | apply below_drew1) | exact HB.out)))); have n3_ := Aside0.mk (below_step (by repeat (first | (with_reducible first | exact HB.out | apply below_alloc | apply pw_below_drewN | apply below_drew1) | exact HB.out)) hb); clear HO_3; clear HO_4; clear HB; have HO_3 := n0_; have HO_4 := n1_; have HO41017 := n2_; have HB := n3_; clear n0_ n1_ n2_ n3_; (try clear hb); (try clear hb2); (try clear hk); (try clear hi); (try clear ho0); obtain ⟨Ao22, co22, eo22⟩ := Kd.R_slice HO41017.out; subst eo22) | (go_at_call 20; (with_reducible refine (impl_ValueOfInterlace.calls kj6 _ _ t41014 t41015 t41018 t41019 _ ?side1 ?side2 A18.out).mono ?_); (case side1 => repeat (first | exact (Kd.R_reads' HO41017.out).2.2 | (with_reducible refine Kd.C_alloc ?_ _) | (with_reducible refine Kd.C_drewN ?_ _) | (with_reducible refine Kd.C_drew ?_))); (case side2 => exact (Kd.R_reads' HO41017.out).2.1); rintro e w23 ⟨rfl, hb⟩; have n0_ := Aside0.mk (Kd.R_below (by (with_reducible repeat (first | apply Kd.R_alloc | apply Kd.R_drewN | apply Kd.R_drew)); exact HO_3.out) hb); have n1_ := Aside0.mk (Kd.R_below (by (with_reducible repeat (first | apply Kd.R_alloc | apply Kd.R_drewN | apply Kd.R_drew)); exact HO_4.out) hb); have n2_ := Aside0.mk (Kd.R_below (by (with_reducible repeat (first | apply Kd.R_alloc | apply Kd.R_drewN | apply Kd.R_drew)); exact HO41017.out) hb); have n3_ := Aside0.mk (below_step (by repeat (first | (with_reducible first | exact HB.out | apply below_alloc | apply pw_below_drewN | apply below_drew1) | exact HB.out)) hb); clear HO_3; clear HO_4; clear HO41017; clear HB; have HO_3 := n0_; have HO_4 := n1_; have HO41017 := n2_; have HB := n3_; clear n0_ n1_ n2_ n3_; (try clear hb); (try clear hb2); (try clear hk); (try clear hi)) | (go_at_call 21; (with_reducible refine (spec_ValueOfInterlace.calls kj6 _ _ t41014 t41015 t41020 t41021 _ ?side1 ?side2 A19.out).mono ?_); (case side1 => repeat (first | exact (Kd.R_reads' HO41017.out).2.2 | (with_reducible refine Kd.C_alloc ?_ _) | (with_reducible refine Kd.C_drewN ?_ _) | (with_reducible refine Kd.C_drew ?_))); (case side2 => exact (Kd.R_reads' HO41017.out).2.1); rintro e w24 ⟨rfl, hb⟩; have n0_ := Aside0.mk (Kd.R_below (by (with_reducible repeat (first | apply Kd.R_alloc | apply Kd.R_drewN | apply Kd.R_drew)); exact HO_3.out) hb); have n1_ := Aside0.mk (Kd.R_below (by (with_reducible repeat (first | apply Kd.R_alloc | apply Kd.R_drewN | apply Kd.R_drew)); exact HO_4.out) hb); have n2_ := Aside0.mk (Kd.R_below (by (with_reducible repeat (first | apply Kd.R_alloc | apply Kd.R_drewN | apply Kd.R_drew)); exact HO41017.out) hb); have n3_ := Aside0.mk (below_step (by repeat (first | (with_reducible first | exact HB.out | apply below_alloc | apply pw_below_drewN | apply below_drew1) | exact HB.out)) hb); clear HO_3; clear HO_4; clear HO41017; clear HB; have HO_3 := n0_; have HO_4 := n1_; have HO41017 := n2_; have HB := n3_; clear n0_ n1_ n2_ n3_; (try clear hb); (try clear hb2); (try clear hk); (try clear hi))))
   (try simp only [Act.put, List.setIfInBounds_toArray, List.set_cons_zero, List.set_cons_succ])
   go_cut [78] (fun v78 wc => ∃ (kq : Nat) (x78_19 : Bool), v78 = .bool x78_19 ∧ Aside0 (laws_FnInterlace.j1 kq t41002 t41005 t41006 x78_19 = some r) ∧ Aside0 (kq ≤ kj6) ∧ Aside0 (Kd.R (Kd.int .i64) 2 wc w.heap.size (fun k_ => some k_ ≠ (v41007 : Value).ownBlock) (.slice Ao9 t41002.length co9) t41002) ∧ Aside0 (Kd.R (Kd.int .i64) 2 wc w.heap.size (fun k_ => some k_ ≠ ((.slice Ao9 t41002.length co9) : Value).ownBlock) v41007 t41005) ∧ Aside0 (Below w.heap.size w wc))
   case first => as_aux_lemma =>
    have H := HC20.out
    clear HC20
    by_cases c25 : t41019 = t41021
    rotate_left
    ·rw [if_neg c25] at H
     exact (laws_FnInterlace.j1_true _ _ _ _ _ HRT.out H).elim
    rw [if_pos c25] at H
    have c25b0 : (t41019 == t41021) = true := beq_iff_eq.mpr c25
    have c25b1 : (t41019 != t41021) = false := bne_eq_false_iff_eq.mpr c25
    clear c25
    (first | rw [c25b0] | (simp only [i64_w, i32_w]; rw [c25b0]) | skip)
    have H' := Aside0.mk H
    clear H
    go_wp2
    repeat (go_quiet (fail); try go_wp2)
    go_meet
    case rel => exact ⟨_, ((t41018 != t41020)), (by first | rfl | (simp; done) | (simp [*]; done)), H', ⟨by have := HJ6.out; first | omega | exact Nat.le_refl _⟩, ⟨by (with_reducible repeat (first | apply Kd.R_alloc | apply Kd.R_drewN | apply Kd.R_drew)); exact Kd.R_mono HO_3.out (fun _ hk => hk.1)⟩, ⟨by (with_reducible repeat (first | apply Kd.R_alloc | apply Kd.R_drewN | apply Kd.R_drew)); exact Kd.R_mono HO_4.out (fun _ hk => hk.1)⟩, ⟨by repeat (first | (with_reducible first | exact HB.out | apply below_alloc | apply pw_below_drewN | apply below_drew1) | exact HB.out)⟩⟩
   case rest => as_aux_lemma =>
    clear HC20
    try clear c1
    try clear c2
    try clear p2
    try clear c3
    try clear c4
    try clear c12
    try clear c12b0
    try clear c12b1
    try clear c16
    try clear c25
    try clear c25b0
    try clear c25b1
    try clear p2
    obtain ⟨kq, x78_19, rfl, HA, HJ19, HO_3, HO_4, HB⟩ := hcut
    cases kq with
    | zero => exact absurd HA.out (by simp [laws_FnInterlace.j1])
    | succ kj19 =>
     have H := HA.out
     clear HA
     simp only [laws_FnInterlace.j1] at H
     by_cases c26 : x78_19 = true
     ·subst c26
      have H1 : (some false) = some r := by rw [if_pos rfl] at H; exact H
      clear H
      have H := H1
      clear H1
      exact absurd ((Option.some.inj H).trans HRT.out) (by decide)
     replace c26 := Bool.eq_false_iff.mpr c26
     subst c26
     have H1 : ((impl_IndependentNumbers.f kj19 t41002).bind fun bt41022 => ((spec_IndependentNumbers.f kj19 t41002).bind fun bt41026 => (if bt41022.2 = bt41026.2 then ((laws_likeInts.f kj19 bt41022.1 bt41026.1).bind fun t41030 => (laws_FnInterlace.j2 kj19 t41002 t41005 t41006 bt41022.1 bt41022.2 (!t41030))) else (laws_FnInterlace.j2 kj19 t41002 t41005 t41006 bt41022.1 bt41022.2 true)))) = some r := by rw [if_neg (show ¬ (false = true) by decide)] at H; exact H
     clear H
     have H := H1
     clear H1
     replace H := Option.bind_eq_some_iff.mp H
     obtain ⟨⟨t41022, t41023⟩, A270, H⟩ := H
     replace H : ((spec_IndependentNumbers.f kj19 t41002).bind fun bt41026 => (if t41023 = bt41026.2 then ((laws_likeInts.f kj19 t41022 bt41026.1).bind fun t41030 => (laws_FnInterlace.j2 kj19 t41002 t41005 t41006 t41022 t41023 (!t41030))) else (laws_FnInterlace.j2 kj19 t41002 t41005 t41006 t41022 t41023 true))) = some r := H
     have A27 := Aside0.mk A270
     clear A270
     replace H := Option.bind_eq_some_iff.mp H
     obtain ⟨⟨t41026, t41027⟩, A280, H⟩ := H
     replace H : (if t41023 = t41027 then ((laws_likeInts.f kj19 t41022 t41026).bind fun t41030 => (laws_FnInterlace.j2 kj19 t41002 t41005 t41006 t41022 t41023 (!t41030))) else (laws_FnInterlace.j2 kj19 t41002 t41005 t41006 t41022 t41023 true)) = some r := H
     have A28 := Aside0.mk A280
     clear A280
     have HC29 := Aside0.mk H
     clear H
     go_upto_region 15 with (first | (go_at_call 22; (with_reducible refine (impl_IndependentNumbers.calls kj19 _ _ t41002 t41022 t41023 _ ?side1 ?side2 A27.out).mono ?_); (case side1 => repeat (first | exact (Kd.R_reads' HO_3.out).2.2 | (with_reducible refine Kd.C_alloc ?_ _) | (with_reducible refine Kd.C_drewN ?_ _) | (with_reducible refine Kd.C_drew ?_))); (case side2 => exact (Kd.R_reads' HO_3.out).2.1); rintro e w30 ⟨v41024, rfl, ho0, hb⟩; have n0_ := Aside0.mk (Kd.R_elder' (by (with_reducible repeat (first | apply Kd.R_alloc | apply Kd.R_drewN | apply Kd.R_drew)); exact HO_3.out) (Kd.R_base ho0) hb); have n1_ := Aside0.mk (Kd.R_elder' (by (with_reducible repeat (first | apply Kd.R_alloc | apply Kd.R_drewN | apply Kd.R_drew)); exact HO_4.out) (Kd.R_base ho0) hb); have n2_ := Aside0.mk (Kd.R_lower (Kd.R_new' (Kd.R_new' ho0 (Kd.R_lt (by (with_reducible repeat (first | apply Kd.R_alloc | apply Kd.R_drewN | apply Kd.R_drew)); exact HO_3.out))) (Kd.R_lt (by (with_reducible repeat (first | apply Kd.R_alloc | apply Kd.R_drewN | apply Kd.R_drew)); exact HO_4.out))) (below_size (by repeat (first | (with_reducible first | exact HB.out | apply below_alloc | apply pw_below_drewN | apply below_drew1) | exact HB.out)))); have n3_ := Aside0.mk (below_step (by repeat (first | (with_reducible first | exact HB.out | apply below_alloc | apply pw_below_drewN | apply below_drew1) | exact HB.out)) hb); clear HO_3; clear HO_4; clear HB; have HO_3 := n0_; have HO_4 := n1_; have HO41025 := n2_; have HB := n3_; clear n0_ n1_ n2_ n3_; (try clear hb); (try clear hb2); (try clear hk); (try clear hi); (try clear ho0)) | (go_at_call 23; (with_reducible refine (spec_IndependentNumbers.calls kj19 _ _ t41002 t41026 t41027 _ ?side1 ?side2 A28.out).mono ?_); (case side1 => repeat (first | exact (Kd.R_reads' HO_3.out).2.2 | (with_reducible refine Kd.C_alloc ?_ _) | (with_reducible refine Kd.C_drewN ?_ _) | (with_reducible refine Kd.C_drew ?_))); (case side2 => exact (Kd.R_reads' HO_3.out).2.1); rintro e w31 ⟨v41028, rfl, ho0, hb⟩; have n0_ := Aside0.mk (Kd.R_elder' (by (with_reducible repeat (first | apply Kd.R_alloc | apply Kd.R_drewN | apply Kd.R_drew)); exact HO_3.out) (Kd.R_base ho0) hb); have n1_ := Aside0.mk (Kd.R_elder' (by (with_reducible repeat (first | apply Kd.R_alloc | apply Kd.R_drewN | apply Kd.R_drew)); exact HO_4.out) (Kd.R_base ho0) hb); have n2_ := Aside0.mk (Kd.R_elder' (by (with_reducible repeat (first | apply Kd.R_alloc | apply Kd.R_drewN | apply Kd.R_drew)); exact HO41025.out) (Kd.R_base ho0) hb); have n3_ := Aside0.mk (Kd.R_lower (Kd.R_new' (Kd.R_new' (Kd.R_new' ho0 (Kd.R_lt (by (with_reducible repeat (first | apply Kd.R_alloc | apply Kd.R_drewN | apply Kd.R_drew)); exact HO_3.out))) (Kd.R_lt (by (with_reducible repeat (first | apply Kd.R_alloc | apply Kd.R_drewN | apply Kd.R_drew)); exact HO_4.out))) (Kd.R_lt (by (with_reducible repeat (first | apply Kd.R_alloc | apply Kd.R_drewN | apply Kd.R_drew)); exact HO41025.out))) (below_size (by repeat (first | (with_reducible first | exact HB.out | apply below_alloc | apply pw_below_drewN | apply below_drew1) | exact HB.out)))); have n4_ := Aside0.mk (below_step (by repeat (first | (with_reducible first | exact HB.out | apply below_alloc | apply pw_below_drewN | apply below_drew1) | exact HB.out)) hb); clear HO_3; clear HO_4; clear HO41025; clear HB; have HO_3 := n0_; have HO_4 := n1_; have HO41025 := n2_; have HO41029 := n3_; have HB := n4_; clear n0_ n1_ n2_ n3_ n4_; (try clear hb); (try clear hb2); (try clear hk); (try clear hi); (try clear ho0)))
     repeat (go_quiet (first | (go_at_call 22; (with_reducible refine (impl_IndependentNumbers.calls kj19 _ _ t41002 t41022 t41023 _ ?side1 ?side2 A27.out).mono ?_); (case side1 => repeat (first | exact (Kd.R_reads' HO_3.out).2.2 | (with_reducible refine Kd.C_alloc ?_ _) | (with_reducible refine Kd.C_drewN ?_ _) | (with_reducible refine Kd.C_drew ?_))); (case side2 => exact (Kd.R_reads' HO_3.out).2.1); rintro e w30 ⟨v41024, rfl, ho0, hb⟩; have n0_ := Aside0.mk (Kd.R_elder' (by (with_reducible repeat (first | apply Kd.R_alloc | apply Kd.R_drewN | apply Kd.R_drew)); exact HO_3.out) (Kd.R_base ho0) hb); have n1_ := Aside0.mk (Kd.R_elder' (by (with_reducible repeat (first | apply Kd.R_alloc | apply Kd.R_drewN | apply Kd.R_drew)); exact HO_4.out) (Kd.R_base ho0) hb); have n2_ := Aside0.mk (Kd.R_lower (Kd.R_new' (Kd.R_new' ho0 (Kd.R_lt (by (with_reducible repeat (first | apply Kd.R_alloc | apply Kd.R_drewN | apply Kd.R_drew)); exact HO_3.out))) (Kd.R_lt (by (with_reducible repeat (first | apply Kd.R_alloc | apply Kd.R_drewN | apply Kd.R_drew)); exact HO_4.out))) (below_size (by repeat (first | (with_reducible first | exact HB.out | apply below_alloc | apply pw_below_drewN | apply below_drew1) | exact HB.out)))); have n3_ := Aside0.mk (below_step (by repeat (first | (with_reducible first | exact HB.out | apply below_alloc | apply pw_below_drewN | apply below_drew1) | exact HB.out)) hb); clear HO_3; clear HO_4; clear HB; have HO_3 := n0_; have HO_4 := n1_; have HO41025 := n2_; have HB := n3_; clear n0_ n1_ n2_ n3_; (try clear hb); (try clear hb2); (try clear hk); (try clear hi); (try clear ho0)) | (go_at_call 23; (with_reducible refine (spec_IndependentNumbers.calls kj19 _ _ t41002 t41026 t41027 _ ?side1 ?side2 A28.out).mono ?_); (case side1 => repeat (first | exact (Kd.R_reads' HO_3.out).2.2 | (with_reducible refine Kd.C_alloc ?_ _) | (with_reducible refine Kd.C_drewN ?_ _) | (with_reducible refine Kd.C_drew ?_))); (case side2 => exact (Kd.R_reads' HO_3.out).2.1); rintro e w31 ⟨v41028, rfl, ho0, hb⟩; have n0_ := Aside0.mk (Kd.R_elder' (by (with_reducible repeat (first | apply Kd.R_alloc | apply Kd.R_drewN | apply Kd.R_drew)); exact HO_3.out) (Kd.R_base ho0) hb); have n1_ := Aside0.mk (Kd.R_elder' (by (with_reducible repeat (first | apply Kd.R_alloc | apply Kd.R_drewN | apply Kd.R_drew)); exact HO_4.out) (Kd.R_base ho0) hb); have n2_ := Aside0.mk (Kd.R_elder' (by (with_reducible repeat (first | apply Kd.R_alloc | apply Kd.R_drewN | apply Kd.R_drew)); exact HO41025.out) (Kd.R_base ho0) hb); have n3_ := Aside0.mk (Kd.R_lower (Kd.R_new' (Kd.R_new' (Kd.R_new' ho0 (Kd.R_lt (by (with_reducible repeat (first | apply Kd.R_alloc | apply Kd.R_drewN | apply Kd.R_drew)); exact HO_3.out))) (Kd.R_lt (by (with_reducible repeat (first | apply Kd.R_alloc | apply Kd.R_drewN | apply Kd.R_drew)); exact HO_4.out))) (Kd.R_lt (by (with_reducible repeat (first | apply Kd.R_alloc | apply Kd.R_drewN | apply Kd.R_drew)); exact HO41025.out))) (below_size (by repeat (first | (with_reducible first | exact HB.out | apply below_alloc | apply pw_below_drewN | apply below_drew1) | exact HB.out)))); have n4_ := Aside0.mk (below_step (by repeat (first | (with_reducible first | exact HB.out | apply below_alloc | apply pw_below_drewN | apply below_drew1) | exact HB.out)) hb); clear HO_3; clear HO_4; clear HO41025; clear HB; have HO_3 := n0_; have HO_4 := n1_; have HO41025 := n2_; have HO41029 := n3_; have HB := n4_; clear n0_ n1_ n2_ n3_ n4_; (try clear hb); (try clear hb2); (try clear hk); (try clear hi); (try clear ho0))); go_upto_region 15 with (first | (go_at_call 22; (with_reducible refine (impl_IndependentNumbers.calls kj19 _ _ t41002 t41022 t41023 _ ?side1 ?side2 A27.out).mono ?_); (case side1 => repeat (first | exact (Kd.R_reads' HO_3.out).2.2 | (with_reducible refine Kd.C_alloc ?_ _) | (with_reducible refine Kd.C_drewN ?_ _) | (with_reducible refine Kd.C_drew ?_))); (case side2 => exact (Kd.R_reads' HO_3.out).2.1); rintro e w30 ⟨v41024, rfl, ho0, hb⟩; have n0_ := Aside0.mk (Kd.R_elder' (by (with_reducible repeat (first | apply Kd.R_alloc | apply Kd.R_drewN | apply Kd.R_drew)); exact HO_3.out) (Kd.R_base ho0) hb); have n1_ := Aside0.mk (Kd.R_elder' (by (with_reducible repeat (first | apply Kd.R_alloc | apply Kd.R_drewN | apply Kd.R_drew)); exact HO_4.out) (Kd.R_base ho0) hb); have n2_ := Aside0.mk (Kd.R_lower (Kd.R_new' (Kd.R_new' ho0 (Kd.R_lt (by (with_reducible repeat (first | apply Kd.R_alloc | apply Kd.R_drewN | apply Kd.R_drew)); exact HO_3.out))) (Kd.R_lt (by (with_reducible repeat (first | apply Kd.R_alloc | apply Kd.R_drewN | apply Kd.R_drew)); exact HO_4.out))) (below_size (by repeat (first | (with_reducible first | exact HB.out | apply below_alloc | apply pw_below_drewN | apply below_drew1) | exact HB.out)))); have n3_ := Aside0.mk (below_step (by repeat (first | (with_reducible first | exact HB.out | apply below_alloc | apply pw_below_drewN | apply below_drew1) | exact HB.out)) hb); clear HO_3; clear HO_4; clear HB; have HO_3 := n0_; have HO_4 := n1_; have HO41025 := n2_; have HB := n3_; clear n0_ n1_ n2_ n3_; (try clear hb); (try clear hb2); (try clear hk); (try clear hi); (try clear ho0)) | (go_at_call 23; (with_reducible refine (spec_IndependentNumbers.calls kj19 _ _ t41002 t41026 t41027 _ ?side1 ?side2 A28.out).mono ?_); (case side1 => repeat (first | exact (Kd.R_reads' HO_3.out).2.2 | (with_reducible refine Kd.C_alloc ?_ _) | (with_reducible refine Kd.C_drewN ?_ _) | (with_reducible refine Kd.C_drew ?_))); (case side2 => exact (Kd.R_reads' HO_3.out).2.1); rintro e w31 ⟨v41028, rfl, ho0, hb⟩; have n0_ := Aside0.mk (Kd.R_elder' (by (with_reducible repeat (first | apply Kd.R_alloc | apply Kd.R_drewN | apply Kd.R_drew)); exact HO_3.out) (Kd.R_base ho0) hb); have n1_ := Aside0.mk (Kd.R_elder' (by (with_reducible repeat (first | apply Kd.R_alloc | apply Kd.R_drewN | apply Kd.R_drew)); exact HO_4.out) (Kd.R_base ho0) hb); have n2_ := Aside0.mk (Kd.R_elder' (by (with_reducible repeat (first | apply Kd.R_alloc | apply Kd.R_drewN | apply Kd.R_drew)); exact HO41025.out) (Kd.R_base ho0) hb); have n3_ := Aside0.mk (Kd.R_lower (Kd.R_new' (Kd.R_new' (Kd.R_new' ho0 (Kd.R_lt (by (with_reducible repeat (first | apply Kd.R_alloc | apply Kd.R_drewN | apply Kd.R_drew)); exact HO_3.out))) (Kd.R_lt (by (with_reducible repeat (first | apply Kd.R_alloc | apply Kd.R_drewN | apply Kd.R_drew)); exact HO_4.out))) (Kd.R_lt (by (with_reducible repeat (first | apply Kd.R_alloc | apply Kd.R_drewN | apply Kd.R_drew)); exact HO41025.out))) (below_size (by repeat (first | (with_reducible first | exact HB.out | apply below_alloc | apply pw_below_drewN | apply below_drew1) | exact HB.out)))); have n4_ := Aside0.mk (below_step (by repeat (first | (with_reducible first | exact HB.out | apply below_alloc | apply pw_below_drewN | apply below_drew1) | exact HB.out)) hb); clear HO_3; clear HO_4; clear HO41025; clear HB; have HO_3 := n0_; have HO_4 := n1_; have HO41025 := n2_; have HO41029 := n3_; have HB := n4_; clear n0_ n1_ n2_ n3_ n4_; (try clear hb); (try clear hb2); (try clear hk); (try clear hi); (try clear ho0))))
     (try simp only [Act.put, List.setIfInBounds_toArray, List.set_cons_zero, List.set_cons_succ])
     go_cut [97] (fun v97 wc => ∃ (kq : Nat) (x97_28 : Bool), v97 = .bool x97_28 ∧ Aside0 (laws_FnInterlace.j2 kq t41002 t41005 t41006 t41022 t41023 x97_28 = some r) ∧ Aside0 (kq ≤ kj19) ∧ Aside0 (Kd.R (Kd.int .i64) 2 wc w.heap.size (fun k_ => some k_ ≠ (v41007 : Value).ownBlock ∧ some k_ ≠ (v41024 : Value).ownBlock) (.slice Ao9 t41002.length co9) t41002) ∧ Aside0 (Kd.R (Kd.int .i64) 2 wc w.heap.size (fun k_ => some k_ ≠ ((.slice Ao9 t41002.length co9) : Value).ownBlock ∧ some k_ ≠ (v41024 : Value).ownBlock) v41007 t41005) ∧ Aside0 (Kd.R (Kd.int .i64) 2 wc w.heap.size (fun k_ => some k_ ≠ ((.slice Ao9 t41002.length co9) : Value).ownBlock ∧ some k_ ≠ (v41007 : Value).ownBlock) v41024 t41022) ∧ Aside0 (Below w.heap.size w wc))
     case first => as_aux_lemma =>
      have H := HC29.out
      clear HC29
      by_cases c32 : t41023 = t41027
      rotate_left
      ·rw [if_neg c32] at H
       exact (laws_FnInterlace.j2_true _ _ _ _ _ _ _ HRT.out H).elim
      rw [if_pos c32] at H
      have c32b0 : (t41023 == t41027) = true := beq_iff_eq.mpr c32
      have c32b1 : (t41023 != t41027) = false := bne_eq_false_iff_eq.mpr c32
      clear c32
      (first | rw [c32b0] | (simp only [i64_w, i32_w]; rw [c32b0]) | skip)
      replace H := Option.bind_eq_some_iff.mp H
      obtain ⟨t41030, A330, H⟩ := H
      replace H : (laws_FnInterlace.j2 kj19 t41002 t41005 t41006 t41022 t41023 (!t41030)) = some r := H
      have A33 := Aside0.mk A330
      clear A330
      have H' := Aside0.mk H
      clear H
      obtain ⟨Ao34, co34, eo34⟩ := Kd.R_slice HO41025.out
      subst eo34
      obtain ⟨Ao35, co35, eo35⟩ := Kd.R_slice HO41029.out
      subst eo35
      go_wp2_with (first | (go_at_call 18; (with_reducible refine (laws_likeInts.calls kj19 _ _ t41022 _ _ t41026 t41030 _ ?side1 ?side2 ?side3 ?side4 A33.out).mono ?_); (case side1 => repeat (first | exact (Kd.R_reads' HO41025.out).2.2 | (with_reducible refine Kd.C_alloc ?_ _) | (with_reducible refine Kd.C_drewN ?_ _) | (with_reducible refine Kd.C_drew ?_))); (case side2 => exact (Kd.R_reads' HO41025.out).2.1); (case side3 => repeat (first | exact (Kd.R_reads' HO41029.out).2.2 | (with_reducible refine Kd.C_alloc ?_ _) | (with_reducible refine Kd.C_drewN ?_ _) | (with_reducible refine Kd.C_drew ?_))); (case side4 => exact (Kd.R_reads' HO41029.out).2.1); rintro e w' ⟨rfl, ⟨nd, rfl⟩⟩; (try first | exact ⟨rfl, _, World.drewN_drewN _ _ _⟩ | exact ⟨rfl, _, Eq.trans (World.drewN_drewN _ _ _) (congrArg (World.drewN _) (Nat.add_assoc _ _ _))⟩)))
      repeat (go_quiet (first | (go_at_call 18; (with_reducible refine (laws_likeInts.calls kj19 _ _ t41022 _ _ t41026 t41030 _ ?side1 ?side2 ?side3 ?side4 A33.out).mono ?_); (case side1 => repeat (first | exact (Kd.R_reads' HO41025.out).2.2 | (with_reducible refine Kd.C_alloc ?_ _) | (with_reducible refine Kd.C_drewN ?_ _) | (with_reducible refine Kd.C_drew ?_))); (case side2 => exact (Kd.R_reads' HO41025.out).2.1); (case side3 => repeat (first | exact (Kd.R_reads' HO41029.out).2.2 | (with_reducible refine Kd.C_alloc ?_ _) | (with_reducible refine Kd.C_drewN ?_ _) | (with_reducible refine Kd.C_drew ?_))); (case side4 => exact (Kd.R_reads' HO41029.out).2.1); rintro e w' ⟨rfl, ⟨nd, rfl⟩⟩; (try first | exact ⟨rfl, _, World.drewN_drewN _ _ _⟩ | exact ⟨rfl, _, Eq.trans (World.drewN_drewN _ _ _) (congrArg (World.drewN _) (Nat.add_assoc _ _ _))⟩))); try go_wp2_with (first | (go_at_call 18; (with_reducible refine (laws_likeInts.calls kj19 _ _ t41022 _ _ t41026 t41030 _ ?side1 ?side2 ?side3 ?side4 A33.out).mono ?_); (case side1 => repeat (first | exact (Kd.R_reads' HO41025.out).2.2 | (with_reducible refine Kd.C_alloc ?_ _) | (with_reducible refine Kd.C_drewN ?_ _) | (with_reducible refine Kd.C_drew ?_))); (case side2 => exact (Kd.R_reads' HO41025.out).2.1); (case side3 => repeat (first | exact (Kd.R_reads' HO41029.out).2.2 | (with_reducible refine Kd.C_alloc ?_ _) | (with_reducible refine Kd.C_drewN ?_ _) | (with_reducible refine Kd.C_drew ?_))); (case side4 => exact (Kd.R_reads' HO41029.out).2.1); rintro e w' ⟨rfl, ⟨nd, rfl⟩⟩; (try first | exact ⟨rfl, _, World.drewN_drewN _ _ _⟩ | exact ⟨rfl, _, Eq.trans (World.drewN_drewN _ _ _) (congrArg (World.drewN _) (Nat.add_assoc _ _ _))⟩))))
      go_meet
      case rel => exact ⟨_, (!t41030), (by first | rfl | (simp; done) | (simp [*]; done)), H', ⟨by have := HJ6.out; have := HJ19.out; first | omega | exact Nat.le_refl _⟩, ⟨by (with_reducible repeat (first | apply Kd.R_alloc | apply Kd.R_drewN | apply Kd.R_drew)); exact Kd.R_mono HO_3.out (fun _ hk => ⟨hk.1.1, hk.1.2⟩)⟩, ⟨by (with_reducible repeat (first | apply Kd.R_alloc | apply Kd.R_drewN | apply Kd.R_drew)); exact Kd.R_mono HO_4.out (fun _ hk => ⟨hk.1.1, hk.1.2⟩)⟩, ⟨by (with_reducible repeat (first | apply Kd.R_alloc | apply Kd.R_drewN | apply Kd.R_drew)); exact Kd.R_mono HO41025.out (fun _ hk => ⟨hk.1.1.2, hk.1.2⟩)⟩, ⟨by repeat (first | (with_reducible first | exact HB.out | apply below_alloc | apply pw_below_drewN | apply below_drew1) | exact HB.out)⟩⟩
     case rest => as_aux_lemma =>
      clear HC29
      try clear c1
      try clear c2
      try clear p2
      try clear c3
      try clear c4
      try clear c12
      try clear c12b0
      try clear c12b1
      try clear c16
      try clear c25
      try clear c25b0
      try clear c25b1
      try clear c26
      try clear c32
      try clear c32b0
      try clear c32b1
      try clear p2
      obtain ⟨kq, x97_28, rfl, HA, HJ28, HO_3, HO_4, HO_14, HB⟩ := hcut
      cases kq with
      | zero => exact absurd HA.out (by simp [laws_FnInterlace.j2])
      | succ kj28 =>
       have H := HA.out
       clear HA
       simp only [laws_FnInterlace.j2] at H
       by_cases c36 : x97_28 = true
       ·subst c36
        have H1 : (some false) = some r := by rw [if_pos rfl] at H; exact H
        clear H
        have H := H1
        clear H1
        exact absurd ((Option.some.inj H).trans HRT.out) (by decide)
       replace c36 := Bool.eq_false_iff.mpr c36
       subst c36
       have H1 : ((impl_CliqueNumbers.f kj28 t41002).bind fun bt41031 => ((spec_CliqueNumbers.f kj28 t41002).bind fun bt41035 => (if bt41031.2 = bt41035.2 then ((laws_likeInts.f kj28 bt41031.1 bt41035.1).bind fun t41039 => (laws_FnInterlace.j3 kj28 t41002 t41005 t41006 t41022 t41023 bt41031.1 bt41031.2 (!t41039))) else (laws_FnInterlace.j3 kj28 t41002 t41005 t41006 t41022 t41023 bt41031.1 bt41031.2 true)))) = some r := by rw [if_neg (show ¬ (false = true) by decide)] at H; exact H
       clear H
       have H := H1
       clear H1
       replace H := Option.bind_eq_some_iff.mp H
       obtain ⟨⟨t41031, t41032⟩, A370, H⟩ := H
       replace H : ((spec_CliqueNumbers.f kj28 t41002).bind fun bt41035 => (if t41032 = bt41035.2 then ((laws_likeInts.f kj28 t41031 bt41035.1).bind fun t41039 => (laws_FnInterlace.j3 kj28 t41002 t41005 t41006 t41022 t41023 t41031 t41032 (!t41039))) else (laws_FnInterlace.j3 kj28 t41002 t41005 t41006 t41022 t41023 t41031 t41032 true))) = some r := H
       have A37 := Aside0.mk A370
       clear A370
       replace H := Option.bind_eq_some_iff.mp H
       obtain ⟨⟨t41035, t41036⟩, A380, H⟩ := H
       replace H : (if t41032 = t41036 then ((laws_likeInts.f kj28 t41031 t41035).bind fun t41039 => (laws_FnInterlace.j3 kj28 t41002 t41005 t41006 t41022 t41023 t41031 t41032 (!t41039))) else (laws_FnInterlace.j3 kj28 t41002 t41005 t41006 t41022 t41023 t41031 t41032 true)) = some r := H
       have A38 := Aside0.mk A380
       clear A380
       have HC39 := Aside0.mk H
       clear H
       go_upto_region 19 with (first | (go_at_call 24; (with_reducible refine (impl_CliqueNumbers.calls kj28 _ _ t41002 t41031 t41032 _ ?side1 ?side2 A37.out).mono ?_); (case side1 => repeat (first | exact (Kd.R_reads' HO_3.out).2.2 | (with_reducible refine Kd.C_alloc ?_ _) | (with_reducible refine Kd.C_drewN ?_ _) | (with_reducible refine Kd.C_drew ?_))); (case side2 => exact (Kd.R_reads' HO_3.out).2.1); rintro e w40 ⟨v41033, rfl, ho0, hb⟩; have n0_ := Aside0.mk (Kd.R_elder' (by (with_reducible repeat (first | apply Kd.R_alloc | apply Kd.R_drewN | apply Kd.R_drew)); exact HO_3.out) (Kd.R_base ho0) hb); have n1_ := Aside0.mk (Kd.R_elder' (by (with_reducible repeat (first | apply Kd.R_alloc | apply Kd.R_drewN | apply Kd.R_drew)); exact HO_4.out) (Kd.R_base ho0) hb); have n2_ := Aside0.mk (Kd.R_elder' (by (with_reducible repeat (first | apply Kd.R_alloc | apply Kd.R_drewN | apply Kd.R_drew)); exact HO_14.out) (Kd.R_base ho0) hb); have n3_ := Aside0.mk (Kd.R_lower (Kd.R_new' (Kd.R_new' (Kd.R_new' ho0 (Kd.R_lt (by (with_reducible repeat (first | apply Kd.R_alloc | apply Kd.R_drewN | apply Kd.R_drew)); exact HO_3.out))) (Kd.R_lt (by (with_reducible repeat (first | apply Kd.R_alloc | apply Kd.R_drewN | apply Kd.R_drew)); exact HO_4.out))) (Kd.R_lt (by (with_reducible repeat (first | apply Kd.R_alloc | apply Kd.R_drewN | apply Kd.R_drew)); exact HO_14.out))) (below_size (by repeat (first | (with_reducible first | exact HB.out | apply below_alloc | apply pw_below_drewN | apply below_drew1) | exact HB.out)))); have n4_ := Aside0.mk (below_step (by repeat (first | (with_reducible first | exact HB.out | apply below_alloc | apply pw_below_drewN | apply below_drew1) | exact HB.out)) hb); clear HO_3; clear HO_4; clear HO_14; clear HB; have HO_3 := n0_; have HO_4 := n1_; have HO_14 := n2_; have HO41034 := n3_; have HB := n4_; clear n0_ n1_ n2_ n3_ n4_; (try clear hb); (try clear hb2); (try clear hk); (try clear hi); (try clear ho0)) | (go_at_call 25; (with_reducible refine (spec_CliqueNumbers.calls kj28 _ _ t41002 t41035 t41036 _ ?side1 ?side2 A38.out).mono ?_); (case side1 => repeat (first | exact (Kd.R_reads' HO_3.out).2.2 | (with_reducible refine Kd.C_alloc ?_ _) | (with_reducible refine Kd.C_drewN ?_ _) | (with_reducible refine Kd.C_drew ?_))); (case side2 => exact (Kd.R_reads' HO_3.out).2.1); rintro e w41 ⟨v41037, rfl, ho0, hb⟩; have n0_ := Aside0.mk (Kd.R_elder' (by (with_reducible repeat (first | apply Kd.R_alloc | apply Kd.R_drewN | apply Kd.R_drew)); exact HO_3.out) (Kd.R_base ho0) hb); have n1_ := Aside0.mk (Kd.R_elder' (by (with_reducible repeat (first | apply Kd.R_alloc | apply Kd.R_drewN | apply Kd.R_drew)); exact HO_4.out) (Kd.R_base ho0) hb); have n2_ := Aside0.mk (Kd.R_elder' (by (with_reducible repeat (first | apply Kd.R_alloc | apply Kd.R_drewN | apply Kd.R_drew)); exact HO_14.out) (Kd.R_base ho0) hb); have n3_ := Aside0.mk (Kd.R_elder' (by (with_reducible repeat (first | apply Kd.R_alloc | apply Kd.R_drewN | apply Kd.R_drew)); exact HO41034.out) (Kd.R_base ho0) hb); have n4_ := Aside0.mk (Kd.R_lower (Kd.R_new' (Kd.R_new' (Kd.R_new' (Kd.R_new' ho0 (Kd.R_lt (by (with_reducible repeat (first | apply Kd.R_alloc | apply Kd.R_drewN | apply Kd.R_drew)); exact HO_3.out))) (Kd.R_lt (by (with_reducible repeat (first | apply Kd.R_alloc | apply Kd.R_drewN | apply Kd.R_drew)); exact HO_4.out))) (Kd.R_lt (by (with_reducible repeat (first | apply Kd.R_alloc | apply Kd.R_drewN | apply Kd.R_drew)); exact HO_14.out))) (Kd.R_lt (by (with_reducible repeat (first | apply Kd.R_alloc | apply Kd.R_drewN | apply Kd.R_drew)); exact HO41034.out))) (below_size (by repeat (first | (with_reducible first | exact HB.out | apply below_alloc | apply pw_below_drewN | apply below_drew1) | exact HB.out)))); have n5_ := Aside0.mk (below_step (by repeat (first | (with_reducible first | exact HB.out | apply below_alloc | apply pw_below_drewN | apply below_drew1) | exact HB.out)) hb); clear HO_3; clear HO_4; clear HO_14; clear HO41034; clear HB; have HO_3 := n0_; have HO_4 := n1_; have HO_14 := n2_; have HO41034 := n3_; have HO41038 := n4_; have HB := n5_; clear n0_ n1_ n2_ n3_ n4_ n5_; (try clear hb); (try clear hb2); (try clear hk); (try clear hi); (try clear ho0)))
       repeat (go_quiet (first | (go_at_call 24; (with_reducible refine (impl_CliqueNumbers.calls kj28 _ _ t41002 t41031 t41032 _ ?side1 ?side2 A37.out).mono ?_); (case side1 => repeat (first | exact (Kd.R_reads' HO_3.out).2.2 | (with_reducible refine Kd.C_alloc ?_ _) | (with_reducible refine Kd.C_drewN ?_ _) | (with_reducible refine Kd.C_drew ?_))); (case side2 => exact (Kd.R_reads' HO_3.out).2.1); rintro e w40 ⟨v41033, rfl, ho0, hb⟩; have n0_ := Aside0.mk (Kd.R_elder' (by (with_reducible repeat (first | apply Kd.R_alloc | apply Kd.R_drewN | apply Kd.R_drew)); exact HO_3.out) (Kd.R_base ho0) hb); have n1_ := Aside0.mk (Kd.R_elder' (by (with_reducible repeat (first | apply Kd.R_alloc | apply Kd.R_drewN | apply Kd.R_drew)); exact HO_4.out) (Kd.R_base ho0) hb); have n2_ := Aside0.mk (Kd.R_elder' (by (with_reducible repeat (first | apply Kd.R_alloc | apply Kd.R_drewN | apply Kd.R_drew)); exact HO_14.out) (Kd.R_base ho0) hb); have n3_ := Aside0.mk (Kd.R_lower (Kd.R_new' (Kd.R_new' (Kd.R_new' ho0 (Kd.R_lt (by (with_reducible repeat (first | apply Kd.R_alloc | apply Kd.R_drewN | apply Kd.R_drew)); exact HO_3.out))) (Kd.R_lt (by (with_reducible repeat (first | apply Kd.R_alloc | apply Kd.R_drewN | apply Kd.R_drew)); exact HO_4.out))) (Kd.R_lt (by (with_reducible repeat (first | apply Kd.R_alloc | apply Kd.R_drewN | apply Kd.R_drew)); exact HO_14.out))) (below_size (by repeat (first | (with_reducible first | exact HB.out | apply below_alloc | apply pw_below_drewN | apply below_drew1) | exact HB.out)))); have n4_ := Aside0.mk (below_step (by repeat (first | (with_reducible first | exact HB.out | apply below_alloc | apply pw_below_drewN | apply below_drew1) | exact HB.out)) hb); clear HO_3; clear HO_4; clear HO_14; clear HB; have HO_3 := n0_; have HO_4 := n1_; have HO_14 := n2_; have HO41034 := n3_; have HB := n4_; clear n0_ n1_ n2_ n3_ n4_; (try clear hb); (try clear hb2); (try clear hk); (try clear hi); (try clear ho0)) | (go_at_call 25; (with_reducible refine (spec_CliqueNumbers.calls kj28 _ _ t41002 t41035 t41036 _ ?side1 ?side2 A38.out).mono ?_); (case side1 => repeat (first | exact (Kd.R_reads' HO_3.out).2.2 | (with_reducible refine Kd.C_alloc ?_ _) | (with_reducible refine Kd.C_drewN ?_ _) | (with_reducible refine Kd.C_drew ?_))); (case side2 => exact (Kd.R_reads' HO_3.out).2.1); rintro e w41 ⟨v41037, rfl, ho0, hb⟩; have n0_ := Aside0.mk (Kd.R_elder' (by (with_reducible repeat (first | apply Kd.R_alloc | apply Kd.R_drewN | apply Kd.R_drew)); exact HO_3.out) (Kd.R_base ho0) hb); have n1_ := Aside0.mk (Kd.R_elder' (by (with_reducible repeat (first | apply Kd.R_alloc | apply Kd.R_drewN | apply Kd.R_drew)); exact HO_4.out) (Kd.R_base ho0) hb); have n2_ := Aside0.mk (Kd.R_elder' (by (with_reducible repeat (first | apply Kd.R_alloc | apply Kd.R_drewN | apply Kd.R_drew)); exact HO_14.out) (Kd.R_base ho0) hb); have n3_ := Aside0.mk (Kd.R_elder' (by (with_reducible repeat (first | apply Kd.R_alloc | apply Kd.R_drewN | apply Kd.R_drew)); exact HO41034.out) (Kd.R_base ho0) hb); have n4_ := Aside0.mk (Kd.R_lower (Kd.R_new' (Kd.R_new' (Kd.R_new' (Kd.R_new' ho0 (Kd.R_lt (by (with_reducible repeat (first | apply Kd.R_alloc | apply Kd.R_drewN | apply Kd.R_drew)); exact HO_3.out))) (Kd.R_lt (by (with_reducible repeat (first | apply Kd.R_alloc | apply Kd.R_drewN | apply Kd.R_drew)); exact HO_4.out))) (Kd.R_lt (by (with_reducible repeat (first | apply Kd.R_alloc | apply Kd.R_drewN | apply Kd.R_drew)); exact HO_14.out))) (Kd.R_lt (by (with_reducible repeat (first | apply Kd.R_alloc | apply Kd.R_drewN | apply Kd.R_drew)); exact HO41034.out))) (below_size (by repeat (first | (with_reducible first | exact HB.out | apply below_alloc | apply pw_below_drewN | apply below_drew1) | exact HB.out)))); have n5_ := Aside0.mk (below_step (by repeat (first | (with_reducible first | exact HB.out | apply below_alloc | apply pw_below_drewN | apply below_drew1) | exact HB.out)) hb); clear HO_3; clear HO_4; clear HO_14; clear HO41034; clear HB; have HO_3 := n0_; have HO_4 := n1_; have HO_14 := n2_; have HO41034 := n3_; have HO41038 := n4_; have HB := n5_; clear n0_ n1_ n2_ n3_ n4_ n5_; (try clear hb); (try clear hb2); (try clear hk); (try clear hi); (try clear ho0))); go_upto_region 19 with (first | (go_at_call 24; (with_reducible refine (impl_CliqueNumbers.calls kj28 _ _ t41002 t41031 t41032 _ ?side1 ?side2 A37.out).mono ?_); (case side1 => repeat (first | exact (Kd.R_reads' HO_3.out).2.2 | (with_reducible refine Kd.C_alloc ?_ _) | (with_reducible refine Kd.C_drewN ?_ _) | (with_reducible refine Kd.C_drew ?_))); (case side2 => exact (Kd.R_reads' HO_3.out).2.1); rintro e w40 ⟨v41033, rfl, ho0, hb⟩; have n0_ := Aside0.mk (Kd.R_elder' (by (with_reducible repeat (first | apply Kd.R_alloc | apply Kd.R_drewN | apply Kd.R_drew)); exact HO_3.out) (Kd.R_base ho0) hb); have n1_ := Aside0.mk (Kd.R_elder' (by (with_reducible repeat (first | apply Kd.R_alloc | apply Kd.R_drewN | apply Kd.R_drew)); exact HO_4.out) (Kd.R_base ho0) hb); have n2_ := Aside0.mk (Kd.R_elder' (by (with_reducible repeat (first | apply Kd.R_alloc | apply Kd.R_drewN | apply Kd.R_drew)); exact HO_14.out) (Kd.R_base ho0) hb); have n3_ := Aside0.mk (Kd.R_lower (Kd.R_new' (Kd.R_new' (Kd.R_new' ho0 (Kd.R_lt (by (with_reducible repeat (first | apply Kd.R_alloc | apply Kd.R_drewN | apply Kd.R_drew)); exact HO_3.out))) (Kd.R_lt (by (with_reducible repeat (first | apply Kd.R_alloc | apply Kd.R_drewN | apply Kd.R_drew)); exact HO_4.out))) (Kd.R_lt (by (with_reducible repeat (first | apply Kd.R_alloc | apply Kd.R_drewN | apply Kd.R_drew)); exact HO_14.out))) (below_size (by repeat (first | (with_reducible first | exact HB.out | apply below_alloc | apply pw_below_drewN | apply below_drew1) | exact HB.out)))); have n4_ := Aside0.mk (below_step (by repeat (first | (with_reducible first | exact HB.out | apply below_alloc | apply pw_below_drewN | apply below_drew1) | exact HB.out)) hb); clear HO_3; clear HO_4; clear HO_14; clear HB; have HO_3 := n0_; have HO_4 := n1_; have HO_14 := n2_; have HO41034 := n3_; have HB := n4_; clear n0_ n1_ n2_ n3_ n4_; (try clear hb); (try clear hb2); (try clear hk); (try clear hi); (try clear ho0)) | (go_at_call 25; (with_reducible refine (spec_CliqueNumbers.calls kj28 _ _ t41002 t41035 t41036 _ ?side1 ?side2 A38.out).mono ?_); (case side1 => repeat (first | exact (Kd.R_reads' HO_3.out).2.2 | (with_reducible refine Kd.C_alloc ?_ _) | (with_reducible refine Kd.C_drewN ?_ _) | (with_reducible refine Kd.C_drew ?_))); (case side2 => exact (Kd.R_reads' HO_3.out).2.1); rintro e w41 ⟨v41037, rfl, ho0, hb⟩; have n0_ := Aside0.mk (Kd.R_elder' (by (with_reducible repeat (first | apply Kd.R_alloc | apply Kd.R_drewN | apply Kd.R_drew)); exact HO_3.out) (Kd.R_base ho0) hb); have n1_ := Aside0.mk (Kd.R_elder' (by (with_reducible repeat (first | apply Kd.R_alloc | apply Kd.R_drewN | apply Kd.R_drew)); exact HO_4.out) (Kd.R_base ho0) hb); have n2_ := Aside0.mk (Kd.R_elder' (by (with_reducible repeat (first | apply Kd.R_alloc | apply Kd.R_drewN | apply Kd.R_drew)); exact HO_14.out) (Kd.R_base ho0) hb); have n3_ := Aside0.mk (Kd.R_elder' (by (with_reducible repeat (first | apply Kd.R_alloc | apply Kd.R_drewN | apply Kd.R_drew)); exact HO41034.out) (Kd.R_base ho0) hb); have n4_ := Aside0.mk (Kd.R_lower (Kd.R_new' (Kd.R_new' (Kd.R_new' (Kd.R_new' ho0 (Kd.R_lt (by (with_reducible repeat (first | apply Kd.R_alloc | apply Kd.R_drewN | apply Kd.R_drew)); exact HO_3.out))) (Kd.R_lt (by (with_reducible repeat (first | apply Kd.R_alloc | apply Kd.R_drewN | apply Kd.R_drew)); exact HO_4.out))) (Kd.R_lt (by (with_reducible repeat (first | apply Kd.R_alloc | apply Kd.R_drewN | apply Kd.R_drew)); exact HO_14.out))) (Kd.R_lt (by (with_reducible repeat (first | apply Kd.R_alloc | apply Kd.R_drewN | apply Kd.R_drew)); exact HO41034.out))) (below_size (by repeat (first | (with_reducible first | exact HB.out | apply below_alloc | apply pw_below_drewN | apply below_drew1) | exact HB.out)))); have n5_ := Aside0.mk (below_step (by repeat (first | (with_reducible first | exact HB.out | apply below_alloc | apply pw_below_drewN | apply below_drew1) | exact HB.out)) hb); clear HO_3; clear HO_4; clear HO_14; clear HO41034; clear HB; have HO_3 := n0_; have HO_4 := n1_; have HO_14 := n2_; have HO41034 := n3_; have HO41038 := n4_; have HB := n5_; clear n0_ n1_ n2_ n3_ n4_ n5_; (try clear hb); (try clear hb2); (try clear hk); (try clear hi); (try clear ho0))))
       (try simp only [Act.put, List.setIfInBounds_toArray, List.set_cons_zero, List.set_cons_succ])
       go_cut [116] (fun v116 wc => ∃ (kq : Nat) (x116_38 : Bool), v116 = .bool x116_38 ∧ Aside0 (laws_FnInterlace.j3 kq t41002 t41005 t41006 t41022 t41023 t41031 t41032 x116_38 = some r) ∧ Aside0 (kq ≤ kj28) ∧ Aside0 (Kd.R (Kd.int .i64) 2 wc w.heap.size (fun k_ => some k_ ≠ (v41007 : Value).ownBlock ∧ some k_ ≠ (v41024 : Value).ownBlock ∧ some k_ ≠ (v41033 : Value).ownBlock) (.slice Ao9 t41002.length co9) t41002) ∧ Aside0 (Kd.R (Kd.int .i64) 2 wc w.heap.size (fun k_ => some k_ ≠ ((.slice Ao9 t41002.length co9) : Value).ownBlock ∧ some k_ ≠ (v41024 : Value).ownBlock ∧ some k_ ≠ (v41033 : Value).ownBlock) v41007 t41005) ∧ Aside0 (Kd.R (Kd.int .i64) 2 wc w.heap.size (fun k_ => some k_ ≠ ((.slice Ao9 t41002.length co9) : Value).ownBlock ∧ some k_ ≠ (v41007 : Value).ownBlock ∧ some k_ ≠ (v41033 : Value).ownBlock) v41024 t41022) ∧ Aside0 (Kd.R (Kd.int .i64) 2 wc w.heap.size (fun k_ => some k_ ≠ ((.slice Ao9 t41002.length co9) : Value).ownBlock ∧ some k_ ≠ (v41007 : Value).ownBlock ∧ some k_ ≠ (v41024 : Value).ownBlock) v41033 t41031) ∧ Aside0 (Below w.heap.size w wc))
       case first => as_aux_lemma =>
        have H := HC39.out
        clear HC39
        by_cases c42 : t41032 = t41036
        rotate_left
        ·rw [if_neg c42] at H
         exact (laws_FnInterlace.j3_true _ _ _ _ _ _ _ _ _ HRT.out H).elim
        rw [if_pos c42] at H
        have c42b0 : (t41032 == t41036) = true := beq_iff_eq.mpr c42
        have c42b1 : (t41032 != t41036) = false := bne_eq_false_iff_eq.mpr c42
        clear c42
        (first | rw [c42b0] | (simp only [i64_w, i32_w]; rw [c42b0]) | skip)
        replace H := Option.bind_eq_some_iff.mp H
        obtain ⟨t41039, A430, H⟩ := H
        replace H : (laws_FnInterlace.j3 kj28 t41002 t41005 t41006 t41022 t41023 t41031 t41032 (!t41039)) = some r := H
        have A43 := Aside0.mk A430
        clear A430
        have H' := Aside0.mk H
        clear H
        obtain ⟨Ao44, co44, eo44⟩ := Kd.R_slice HO41034.out
        subst eo44
        obtain ⟨Ao45, co45, eo45⟩ := Kd.R_slice HO41038.out
        subst eo45
        go_wp2_with (first | (go_at_call 18; (with_reducible refine (laws_likeInts.calls kj28 _ _ t41031 _ _ t41035 t41039 _ ?side1 ?side2 ?side3 ?side4 A43.out).mono ?_); (case side1 => repeat (first | exact (Kd.R_reads' HO41034.out).2.2 | (with_reducible refine Kd.C_alloc ?_ _) | (with_reducible refine Kd.C_drewN ?_ _) | (with_reducible refine Kd.C_drew ?_))); (case side2 => exact (Kd.R_reads' HO41034.out).2.1); (case side3 => repeat (first | exact (Kd.R_reads' HO41038.out).2.2 | (with_reducible refine Kd.C_alloc ?_ _) | (with_reducible refine Kd.C_drewN ?_ _) | (with_reducible refine Kd.C_drew ?_))); (case side4 => exact (Kd.R_reads' HO41038.out).2.1); rintro e w' ⟨rfl, ⟨nd, rfl⟩⟩; (try first | exact ⟨rfl, _, World.drewN_drewN _ _ _⟩ | exact ⟨rfl, _, Eq.trans (World.drewN_drewN _ _ _) (congrArg (World.drewN _) (Nat.add_assoc _ _ _))⟩)))
        repeat (go_quiet (first | (go_at_call 18; (with_reducible refine (laws_likeInts.calls kj28 _ _ t41031 _ _ t41035 t41039 _ ?side1 ?side2 ?side3 ?side4 A43.out).mono ?_); (case side1 => repeat (first | exact (Kd.R_reads' HO41034.out).2.2 | (with_reducible refine Kd.C_alloc ?_ _) | (with_reducible refine Kd.C_drewN ?_ _) | (with_reducible refine Kd.C_drew ?_))); (case side2 => exact (Kd.R_reads' HO41034.out).2.1); (case side3 => repeat (first | exact (Kd.R_reads' HO41038.out).2.2 | (with_reducible refine Kd.C_alloc ?_ _) | (with_reducible refine Kd.C_drewN ?_ _) | (with_reducible refine Kd.C_drew ?_))); (case side4 => exact (Kd.R_reads' HO41038.out).2.1); rintro e w' ⟨rfl, ⟨nd, rfl⟩⟩; (try first | exact ⟨rfl, _, World.drewN_drewN _ _ _⟩ | exact ⟨rfl, _, Eq.trans (World.drewN_drewN _ _ _) (congrArg (World.drewN _) (Nat.add_assoc _ _ _))⟩))); try go_wp2_with (first | (go_at_call 18; (with_reducible refine (laws_likeInts.calls kj28 _ _ t41031 _ _ t41035 t41039 _ ?side1 ?side2 ?side3 ?side4 A43.out).mono ?_); (case side1 => repeat (first | exact (Kd.R_reads' HO41034.out).2.2 | (with_reducible refine Kd.C_alloc ?_ _) | (with_reducible refine Kd.C_drewN ?_ _) | (with_reducible refine Kd.C_drew ?_))); (case side2 => exact (Kd.R_reads' HO41034.out).2.1); (case side3 => repeat (first | exact (Kd.R_reads' HO41038.out).2.2 | (with_reducible refine Kd.C_alloc ?_ _) | (with_reducible refine Kd.C_drewN ?_ _) | (with_reducible refine Kd.C_drew ?_))); (case side4 => exact (Kd.R_reads' HO41038.out).2.1); rintro e w' ⟨rfl, ⟨nd, rfl⟩⟩; (try first | exact ⟨rfl, _, World.drewN_drewN _ _ _⟩ | exact ⟨rfl, _, Eq.trans (World.drewN_drewN _ _ _) (congrArg (World.drewN _) (Nat.add_assoc _ _ _))⟩))))
        go_meet
        case rel => exact ⟨_, (!t41039), (by first | rfl | (simp; done) | (simp [*]; done)), H', ⟨by have := HJ6.out; have := HJ19.out; have := HJ28.out; first | omega | exact Nat.le_refl _⟩, ⟨by (with_reducible repeat (first | apply Kd.R_alloc | apply Kd.R_drewN | apply Kd.R_drew)); exact Kd.R_mono HO_3.out (fun _ hk => ⟨hk.1.1.1, ⟨hk.1.1.2, hk.1.2⟩⟩)⟩, ⟨by (with_reducible repeat (first | apply Kd.R_alloc | apply Kd.R_drewN | apply Kd.R_drew)); exact Kd.R_mono HO_4.out (fun _ hk => ⟨hk.1.1.1, ⟨hk.1.1.2, hk.1.2⟩⟩)⟩, ⟨by (with_reducible repeat (first | apply Kd.R_alloc | apply Kd.R_drewN | apply Kd.R_drew)); exact Kd.R_mono HO_14.out (fun _ hk => ⟨hk.1.1.1, ⟨hk.1.1.2, hk.1.2⟩⟩)⟩, ⟨by (with_reducible repeat (first | apply Kd.R_alloc | apply Kd.R_drewN | apply Kd.R_drew)); exact Kd.R_mono HO41034.out (fun _ hk => ⟨hk.1.1.1.2, ⟨hk.1.1.2, hk.1.2⟩⟩)⟩, ⟨by repeat (first | (with_reducible first | exact HB.out | apply below_alloc | apply pw_below_drewN | apply below_drew1) | exact HB.out)⟩⟩
       case rest => as_aux_lemma =>
        clear HC39
        try clear c1
        try clear c2
        try clear p2
        try clear c3
        try clear c4
        try clear c12
        try clear c12b0
        try clear c12b1
        try clear c16
        try clear c25
        try clear c25b0
        try clear c25b1
        try clear c26
        try clear c32
        try clear c32b0
        try clear c32b1
        try clear c36
        try clear c42
        try clear c42b0
        try clear c42b1
        try clear p2
        obtain ⟨kq, x116_38, rfl, HA, HJ38, HO_3, HO_4, HO_14, HO_18, HB⟩ := hcut
        cases kq with
        | zero => exact absurd HA.out (by simp [laws_FnInterlace.j3])
        | succ kj38 =>
         have H := HA.out
         clear HA
         simp only [laws_FnInterlace.j3] at H
         by_cases c46 : x116_38 = true
         ·subst c46
          have H1 : (some false) = some r := by rw [if_pos rfl] at H; exact H
          clear H
          have H := H1
          clear H1
          exact absurd ((Option.some.inj H).trans HRT.out) (by decide)
         replace c46 := Bool.eq_false_iff.mpr c46
         subst c46
         have H1 : ((impl_MatchingNumbers.f kj38 t41002).bind fun bt41040 => ((spec_MatchingNumbers.f kj38 t41002).bind fun bt41044 => (if bt41040.2 = bt41044.2 then ((laws_likeInts.f kj38 bt41040.1 bt41044.1).bind fun t41048 => (laws_FnInterlace.j4 kj38 t41002 t41005 t41006 t41022 t41023 t41031 t41032 bt41040.1 bt41040.2 (!t41048))) else (laws_FnInterlace.j4 kj38 t41002 t41005 t41006 t41022 t41023 t41031 t41032 bt41040.1 bt41040.2 true)))) = some r := by rw [if_neg (show ¬ (false = true) by decide)] at H; exact H
         clear H
         have H := H1
         clear H1
         replace H := Option.bind_eq_some_iff.mp H
         obtain ⟨⟨t41040, t41041⟩, A470, H⟩ := H
         replace H : ((spec_MatchingNumbers.f kj38 t41002).bind fun bt41044 => (if t41041 = bt41044.2 then ((laws_likeInts.f kj38 t41040 bt41044.1).bind fun t41048 => (laws_FnInterlace.j4 kj38 t41002 t41005 t41006 t41022 t41023 t41031 t41032 t41040 t41041 (!t41048))) else (laws_FnInterlace.j4 kj38 t41002 t41005 t41006 t41022 t41023 t41031 t41032 t41040 t41041 true))) = some r := H
         have A47 := Aside0.mk A470
         clear A470
         replace H := Option.bind_eq_some_iff.mp H
         obtain ⟨⟨t41044, t41045⟩, A480, H⟩ := H
         replace H : (if t41041 = t41045 then ((laws_likeInts.f kj38 t41040 t41044).bind fun t41048 => (laws_FnInterlace.j4 kj38 t41002 t41005 t41006 t41022 t41023 t41031 t41032 t41040 t41041 (!t41048))) else (laws_FnInterlace.j4 kj38 t41002 t41005 t41006 t41022 t41023 t41031 t41032 t41040 t41041 true)) = some r := H
         have A48 := Aside0.mk A480
         clear A480
         have HC49 := Aside0.mk H
         clear H
         go_upto_region 23 with (first | (go_at_call 26; (with_reducible refine (impl_MatchingNumbers.calls kj38 _ _ t41002 t41040 t41041 _ ?side1 ?side2 A47.out).mono ?_); (case side1 => repeat (first | exact (Kd.R_reads' HO_3.out).2.2 | (with_reducible refine Kd.C_alloc ?_ _) | (with_reducible refine Kd.C_drewN ?_ _) | (with_reducible refine Kd.C_drew ?_))); (case side2 => exact (Kd.R_reads' HO_3.out).2.1); rintro e w50 ⟨v41042, rfl, ho0, hb⟩; have n0_ := Aside0.mk (Kd.R_elder' (by (with_reducible repeat (first | apply Kd.R_alloc | apply Kd.R_drewN | apply Kd.R_drew)); exact HO_3.out) (Kd.R_base ho0) hb); have n1_ := Aside0.mk (Kd.R_elder' (by (with_reducible repeat (first | apply Kd.R_alloc | apply Kd.R_drewN | apply Kd.R_drew)); exact HO_4.out) (Kd.R_base ho0) hb); have n2_ := Aside0.mk (Kd.R_elder' (by (with_reducible repeat (first | apply Kd.R_alloc | apply Kd.R_drewN | apply Kd.R_drew)); exact HO_14.out) (Kd.R_base ho0) hb); have n3_ := Aside0.mk (Kd.R_elder' (by (with_reducible repeat (first | apply Kd.R_alloc | apply Kd.R_drewN | apply Kd.R_drew)); exact HO_18.out) (Kd.R_base ho0) hb); have n4_ := Aside0.mk (Kd.R_lower (Kd.R_new' (Kd.R_new' (Kd.R_new' (Kd.R_new' ho0 (Kd.R_lt (by (with_reducible repeat (first | apply Kd.R_alloc | apply Kd.R_drewN | apply Kd.R_drew)); exact HO_3.out))) (Kd.R_lt (by (with_reducible repeat (first | apply Kd.R_alloc | apply Kd.R_drewN | apply Kd.R_drew)); exact HO_4.out))) (Kd.R_lt (by (with_reducible repeat (first | apply Kd.R_alloc | apply Kd.R_drewN | apply Kd.R_drew)); exact HO_14.out))) (Kd.R_lt (by (with_reducible repeat (first | apply Kd.R_alloc | apply Kd.R_drewN | apply Kd.R_drew)); exact HO_18.out))) (below_size (by repeat (first | (with_reducible first | exact HB.out | apply below_alloc | apply pw_below_drewN | apply below_drew1) | exact HB.out)))); have n5_ := Aside0.mk (below_step (by repeat (first | (with_reducible first | exact HB.out | apply below_alloc | apply pw_below_drewN | apply below_drew1) | exact HB.out)) hb); clear HO_3; clear HO_4; clear HO_14; clear HO_18; clear HB; have HO_3 := n0_; have HO_4 := n1_; have HO_14 := n2_; have HO_18 := n3_; have HO41043 := n4_; have HB := n5_; clear n0_ n1_ n2_ n3_ n4_ n5_; (try clear hb); (try clear hb2); (try clear hk); (try clear hi); (try clear ho0)) | (go_at_call 27; (with_reducible refine (spec_MatchingNumbers.calls kj38 _ _ t41002 t41044 t41045 _ ?side1 ?side2 A48.out).mono ?_); (case side1 => repeat (first | exact (Kd.R_reads' HO_3.out).2.2 | (with_reducible refine Kd.C_alloc ?_ _) | (with_reducible refine Kd.C_drewN ?_ _) | (with_reducible refine Kd.C_drew ?_))); (case side2 => exact (Kd.R_reads' HO_3.out).2.1); rintro e w51 ⟨v41046, rfl, ho0, hb⟩; have n0_ := Aside0.mk (Kd.R_elder' (by (with_reducible repeat (first | apply Kd.R_alloc | apply Kd.R_drewN | apply Kd.R_drew)); exact HO_3.out) (Kd.R_base ho0) hb); have n1_ := Aside0.mk (Kd.R_elder' (by (with_reducible repeat (first | apply Kd.R_alloc | apply Kd.R_drewN | apply Kd.R_drew)); exact HO_4.out) (Kd.R_base ho0) hb); have n2_ := Aside0.mk (Kd.R_elder' (by (with_reducible repeat (first | apply Kd.R_alloc | apply Kd.R_drewN | apply Kd.R_drew)); exact HO_14.out) (Kd.R_base ho0) hb); have n3_ := Aside0.mk (Kd.R_elder' (by (with_reducible repeat (first | apply Kd.R_alloc | apply Kd.R_drewN | apply Kd.R_drew)); exact HO_18.out) (Kd.R_base ho0) hb); have n4_ := Aside0.mk (Kd.R_elder' (by (with_reducible repeat (first | apply Kd.R_alloc | apply Kd.R_drewN | apply Kd.R_drew)); exact HO41043.out) (Kd.R_base ho0) hb); have n5_ := Aside0.mk (Kd.R_lower (Kd.R_new' (Kd.R_new' (Kd.R_new' (Kd.R_new' (Kd.R_new' ho0 (Kd.R_lt (by (with_reducible repeat (first | apply Kd.R_alloc | apply Kd.R_drewN | apply Kd.R_drew)); exact HO_3.out))) (Kd.R_lt (by (with_reducible repeat (first | apply Kd.R_alloc | apply Kd.R_drewN | apply Kd.R_drew)); exact HO_4.out))) (Kd.R_lt (by (with_reducible repeat (first | apply Kd.R_alloc | apply Kd.R_drewN | apply Kd.R_drew)); exact HO_14.out))) (Kd.R_lt (by (with_reducible repeat (first | apply Kd.R_alloc | apply Kd.R_drewN | apply Kd.R_drew)); exact HO_18.out))) (Kd.R_lt (by (with_reducible repeat (first | apply Kd.R_alloc | apply Kd.R_drewN | apply Kd.R_drew)); exact HO41043.out))) (below_size (by repeat (first | (with_reducible first | exact HB.out | apply below_alloc | apply pw_below_drewN | apply below_drew1) | exact HB.out)))); have n6_ := Aside0.mk (below_step (by repeat (first | (with_reducible first | exact HB.out | apply below_alloc | apply pw_below_drewN | apply below_drew1) | exact HB.out)) hb); clear HO_3; clear HO_4; clear HO_14; clear HO_18; clear HO41043; clear HB; have HO_3 := n0_; have HO_4 := n1_; have HO_14 := n2_; have HO_18 := n3_; have HO41043 := n4_; have HO41047 := n5_; have HB := n6_; clear n0_ n1_ n2_ n3_ n4_ n5_ n6_; (try clear hb); (try clear hb2); (try clear hk); (try clear hi); (try clear ho0)))
         repeat (go_quiet (first | (go_at_call 26; (with_reducible refine (impl_MatchingNumbers.calls kj38 _ _ t41002 t41040 t41041 _ ?side1 ?side2 A47.out).mono ?_); (case side1 => repeat (first | exact (Kd.R_reads' HO_3.out).2.2 | (with_reducible refine Kd.C_alloc ?_ _) | (with_reducible refine Kd.C_drewN ?_ _) | (with_reducible refine Kd.C_drew ?_))); (case side2 => exact (Kd.R_reads' HO_3.out).2.1); rintro e w50 ⟨v41042, rfl, ho0, hb⟩; have n0_ := Aside0.mk (Kd.R_elder' (by (with_reducible repeat (first | apply Kd.R_alloc | apply Kd.R_drewN | apply Kd.R_drew)); exact HO_3.out) (Kd.R_base ho0) hb); have n1_ := Aside0.mk (Kd.R_elder' (by (with_reducible repeat (first | apply Kd.R_alloc | apply Kd.R_drewN | apply Kd.R_drew)); exact HO_4.out) (Kd.R_base ho0) hb); have n2_ := Aside0.mk (Kd.R_elder' (by (with_reducible repeat (first | apply Kd.R_alloc | apply Kd.R_drewN | apply Kd.R_drew)); exact HO_14.out) (Kd.R_base ho0) hb); have n3_ := Aside0.mk (Kd.R_elder' (by (with_reducible repeat (first | apply Kd.R_alloc | apply Kd.R_drewN | apply Kd.R_drew)); exact HO_18.out) (Kd.R_base ho0) hb); have n4_ := Aside0.mk (Kd.R_lower (Kd.R_new' (Kd.R_new' (Kd.R_new' (Kd.R_new' ho0 (Kd.R_lt (by (with_reducible repeat (first | apply Kd.R_alloc | apply Kd.R_drewN | apply Kd.R_drew)); exact HO_3.out))) (Kd.R_lt (by (with_reducible repeat (first | apply Kd.R_alloc | apply Kd.R_drewN | apply Kd.R_drew)); exact HO_4.out))) (Kd.R_lt (by (with_reducible repeat (first | apply Kd.R_alloc | apply Kd.R_drewN | apply Kd.R_drew)); exact HO_14.out))) (Kd.R_lt (by (with_reducible repeat (first | apply Kd.R_alloc | apply Kd.R_drewN | apply Kd.R_drew)); exact HO_18.out))) (below_size (by repeat (first | (with_reducible first | exact HB.out | apply below_alloc | apply pw_below_drewN | apply below_drew1) | exact HB.out)))); have n5_ := Aside0.mk (below_step (by repeat (first | (with_reducible first | exact HB.out | apply below_alloc | apply pw_below_drewN | apply below_drew1) | exact HB.out)) hb); clear HO_3; clear HO_4; clear HO_14; clear HO_18; clear HB; have HO_3 := n0_; have HO_4 := n1_; have HO_14 := n2_; have HO_18 := n3_; have HO41043 := n4_; have HB := n5_; clear n0_ n1_ n2_ n3_ n4_ n5_; (try clear hb); (try clear hb2); (try clear hk); (try clear hi); (try clear ho0)) | (go_at_call 27; (with_reducible refine (spec_MatchingNumbers.calls kj38 _ _ t41002 t41044 t41045 _ ?side1 ?side2 A48.out).mono ?_); (case side1 => repeat (first | exact (Kd.R_reads' HO_3.out).2.2 | (with_reducible refine Kd.C_alloc ?_ _) | (with_reducible refine Kd.C_drewN ?_ _) | (with_reducible refine Kd.C_drew ?_))); (case side2 => exact (Kd.R_reads' HO_3.out).2.1); rintro e w51 ⟨v41046, rfl, ho0, hb⟩; have n0_ := Aside0.mk (Kd.R_elder' (by (with_reducible repeat (first | apply Kd.R_alloc | apply Kd.R_drewN | apply Kd.R_drew)); exact HO_3.out) (Kd.R_base ho0) hb); have n1_ := Aside0.mk (Kd.R_elder' (by (with_reducible repeat (first | apply Kd.R_alloc | apply Kd.R_drewN | apply Kd.R_drew)); exact HO_4.out) (Kd.R_base ho0) hb); have n2_ := Aside0.mk (Kd.R_elder' (by (with_reducible repeat (first | apply Kd.R_alloc | apply Kd.R_drewN | apply Kd.R_drew)); exact HO_14.out) (Kd.R_base ho0) hb); have n3_ := Aside0.mk (Kd.R_elder' (by (with_reducible repeat (first | apply Kd.R_alloc | apply Kd.R_drewN | apply Kd.R_drew)); exact HO_18.out) (Kd.R_base ho0) hb); have n4_ := Aside0.mk (Kd.R_elder' (by (with_reducible repeat (first | apply Kd.R_alloc | apply Kd.R_drewN | apply Kd.R_drew)); exact HO41043.out) (Kd.R_base ho0) hb); have n5_ := Aside0.mk (Kd.R_lower (Kd.R_new' (Kd.R_new' (Kd.R_new' (Kd.R_new' (Kd.R_new' ho0 (Kd.R_lt (by (with_reducible repeat (first | apply Kd.R_alloc | apply Kd.R_drewN | apply Kd.R_drew)); exact HO_3.out))) (Kd.R_lt (by (with_reducible repeat (first | apply Kd.R_alloc | apply Kd.R_drewN | apply Kd.R_drew)); exact HO_4.out))) (Kd.R_lt (by (with_reducible repeat (first | apply Kd.R_alloc | apply Kd.R_drewN | apply Kd.R_drew)); exact HO_14.out))) (Kd.R_lt (by (with_reducible repeat (first | apply Kd.R_alloc | apply Kd.R_drewN | apply Kd.R_drew)); exact HO_18.out))) (Kd.R_lt (by (with_reducible repeat (first | apply Kd.R_alloc | apply Kd.R_drewN | apply Kd.R_drew)); exact HO41043.out))) (below_size (by repeat (first | (with_reducible first | exact HB.out | apply below_alloc | apply pw_below_drewN | apply below_drew1) | exact HB.out)))); have n6_ := Aside0.mk (below_step (by repeat (first | (with_reducible first | exact HB.out | apply below_alloc | apply pw_below_drewN | apply below_drew1) | exact HB.out)) hb); clear HO_3; clear HO_4; clear HO_14; clear HO_18; clear HO41043; clear HB; have HO_3 := n0_; have HO_4 := n1_; have HO_14 := n2_; have HO_18 := n3_; have HO41043 := n4_; have HO41047 := n5_; have HB := n6_; clear n0_ n1_ n2_ n3_ n4_ n5_ n6_; (try clear hb); (try clear hb2); (try clear hk); (try clear hi); (try clear ho0))); go_upto_region 23 with (first | (go_at_call 26; (with_reducible refine (impl_MatchingNumbers.calls kj38 _ _ t41002 t41040 t41041 _ ?side1 ?side2 A47.out).mono ?_); (case side1 => repeat (first | exact (Kd.R_reads' HO_3.out).2.2 | (with_reducible refine Kd.C_alloc ?_ _) | (with_reducible refine Kd.C_drewN ?_ _) | (with_reducible refine Kd.C_drew ?_))); (case side2 => exact (Kd.R_reads' HO_3.out).2.1); rintro e w50 ⟨v41042, rfl, ho0, hb⟩; have n0_ := Aside0.mk (Kd.R_elder' (by (with_reducible repeat (first | apply Kd.R_alloc | apply Kd.R_drewN | apply Kd.R_drew)); exact HO_3.out) (Kd.R_base ho0) hb); have n1_ := Aside0.mk (Kd.R_elder' (by (with_reducible repeat (first | apply Kd.R_alloc | apply Kd.R_drewN | apply Kd.R_drew)); exact HO_4.out) (Kd.R_base ho0) hb); have n2_ := Aside0.mk (Kd.R_elder' (by (with_reducible repeat (first | apply Kd.R_alloc | apply Kd.R_drewN | apply Kd.R_drew)); exact HO_14.out) (Kd.R_base ho0) hb); have n3_ := Aside0.mk (Kd.R_elder' (by (with_reducible repeat (first | apply Kd.R_alloc | apply Kd.R_drewN | apply Kd.R_drew)); exact HO_18.out) (Kd.R_base ho0) hb); have n4_ := Aside0.mk (Kd.R_lower (Kd.R_new' (Kd.R_new' (Kd.R_new' (Kd.R_new' ho0 (Kd.R_lt (by (with_reducible repeat (first | apply Kd.R_alloc | apply Kd.R_drewN | apply Kd.R_drew)); exact HO_3.out))) (Kd.R_lt (by (with_reducible repeat (first | apply Kd.R_alloc | apply Kd.R_drewN | apply Kd.R_drew)); exact HO_4.out))) (Kd.R_lt (by (with_reducible repeat (first | apply Kd.R_alloc | apply Kd.R_drewN | apply Kd.R_drew)); exact HO_14.out))) (Kd.R_lt (by (with_reducible repeat (first | apply Kd.R_alloc | apply Kd.R_drewN | apply Kd.R_drew)); exact HO_18.out))) (below_size (by repeat (first | (with_reducible first | exact HB.out | apply below_alloc | apply pw_below_drewN | apply below_drew1) | exact HB.out)))); have n5_ := Aside0.mk (below_step (by repeat (first | (with_reducible first | exact HB.out | apply below_alloc | apply pw_below_drewN | apply below_drew1) | exact HB.out)) hb); clear HO_3; clear HO_4; clear HO_14; clear HO_18; clear HB; have HO_3 := n0_; have HO_4 := n1_; have HO_14 := n2_; have HO_18 := n3_; have HO41043 := n4_; have HB := n5_; clear n0_ n1_ n2_ n3_ n4_ n5_; (try clear hb); (try clear hb2); (try clear hk); (try clear hi); (try clear ho0)) | (go_at_call 27; (with_reducible refine (spec_MatchingNumbers.calls kj38 _ _ t41002 t41044 t41045 _ ?side1 ?side2 A48.out).mono ?_); (case side1 => repeat (first | exact (Kd.R_reads' HO_3.out).2.2 | (with_reducible refine Kd.C_alloc ?_ _) | (with_reducible refine Kd.C_drewN ?_ _) | (with_reducible refine Kd.C_drew ?_))); (case side2 => exact (Kd.R_reads' HO_3.out).2.1); rintro e w51 ⟨v41046, rfl, ho0, hb⟩; have n0_ := Aside0.mk (Kd.R_elder' (by (with_reducible repeat (first | apply Kd.R_alloc | apply Kd.R_drewN | apply Kd.R_drew)); exact HO_3.out) (Kd.R_base ho0) hb); have n1_ := Aside0.mk (Kd.R_elder' (by (with_reducible repeat (first | apply Kd.R_alloc | apply Kd.R_drewN | apply Kd.R_drew)); exact HO_4.out) (Kd.R_base ho0) hb); have n2_ := Aside0.mk (Kd.R_elder' (by (with_reducible repeat (first | apply Kd.R_alloc | apply Kd.R_drewN | apply Kd.R_drew)); exact HO_14.out) (Kd.R_base ho0) hb); have n3_ := Aside0.mk (Kd.R_elder' (by (with_reducible repeat (first | apply Kd.R_alloc | apply Kd.R_drewN | apply Kd.R_drew)); exact HO_18.out) (Kd.R_base ho0) hb); have n4_ := Aside0.mk (Kd.R_elder' (by (with_reducible repeat (first | apply Kd.R_alloc | apply Kd.R_drewN | apply Kd.R_drew)); exact HO41043.out) (Kd.R_base ho0) hb); have n5_ := Aside0.mk (Kd.R_lower (Kd.R_new' (Kd.R_new' (Kd.R_new' (Kd.R_new' (Kd.R_new' ho0 (Kd.R_lt (by (with_reducible repeat (first | apply Kd.R_alloc | apply Kd.R_drewN | apply Kd.R_drew)); exact HO_3.out))) (Kd.R_lt (by (with_reducible repeat (first | apply Kd.R_alloc | apply Kd.R_drewN | apply Kd.R_drew)); exact HO_4.out))) (Kd.R_lt (by (with_reducible repeat (first | apply Kd.R_alloc | apply Kd.R_drewN | apply Kd.R_drew)); exact HO_14.out))) (Kd.R_lt (by (with_reducible repeat (first | apply Kd.R_alloc | apply Kd.R_drewN | apply Kd.R_drew)); exact HO_18.out))) (Kd.R_lt (by (with_reducible repeat (first | apply Kd.R_alloc | apply Kd.R_drewN | apply Kd.R_drew)); exact HO41043.out))) (below_size (by repeat (first | (with_reducible first | exact HB.out | apply below_alloc | apply pw_below_drewN | apply below_drew1) | exact HB.out)))); have n6_ := Aside0.mk (below_step (by repeat (first | (with_reducible first | exact HB.out | apply below_alloc | apply pw_below_drewN | apply below_drew1) | exact HB.out)) hb); clear HO_3; clear HO_4; clear HO_14; clear HO_18; clear HO41043; clear HB; have HO_3 := n0_; have HO_4 := n1_; have HO_14 := n2_; have HO_18 := n3_; have HO41043 := n4_; have HO41047 := n5_; have HB := n6_; clear n0_ n1_ n2_ n3_ n4_ n5_ n6_; (try clear hb); (try clear hb2); (try clear hk); (try clear hi); (try clear ho0))))
         (try simp only [Act.put, List.setIfInBounds_toArray, List.set_cons_zero, List.set_cons_succ])
         go_cut [135] (fun v135 wc => ∃ (kq : Nat) (x135_48 : Bool), v135 = .bool x135_48 ∧ Aside0 (laws_FnInterlace.j4 kq t41002 t41005 t41006 t41022 t41023 t41031 t41032 t41040 t41041 x135_48 = some r) ∧ Aside0 (kq ≤ kj38) ∧ Aside0 (Kd.R (Kd.int .i64) 2 wc w.heap.size (fun k_ => some k_ ≠ (v41007 : Value).ownBlock ∧ some k_ ≠ (v41024 : Value).ownBlock ∧ some k_ ≠ (v41033 : Value).ownBlock ∧ some k_ ≠ (v41042 : Value).ownBlock) (.slice Ao9 t41002.length co9) t41002) ∧ Aside0 (Kd.R (Kd.int .i64) 2 wc w.heap.size (fun k_ => some k_ ≠ ((.slice Ao9 t41002.length co9) : Value).ownBlock ∧ some k_ ≠ (v41024 : Value).ownBlock ∧ some k_ ≠ (v41033 : Value).ownBlock ∧ some k_ ≠ (v41042 : Value).ownBlock) v41007 t41005) ∧ Aside0 (Kd.R (Kd.int .i64) 2 wc w.heap.size (fun k_ => some k_ ≠ ((.slice Ao9 t41002.length co9) : Value).ownBlock ∧ some k_ ≠ (v41007 : Value).ownBlock ∧ some k_ ≠ (v41033 : Value).ownBlock ∧ some k_ ≠ (v41042 : Value).ownBlock) v41024 t41022) ∧ Aside0 (Kd.R (Kd.int .i64) 2 wc w.heap.size (fun k_ => some k_ ≠ ((.slice Ao9 t41002.length co9) : Value).ownBlock ∧ some k_ ≠ (v41007 : Value).ownBlock ∧ some k_ ≠ (v41024 : Value).ownBlock ∧ some k_ ≠ (v41042 : Value).ownBlock) v41033 t41031) ∧ Aside0 (Kd.R (Kd.int .i64) 2 wc w.heap.size (fun k_ => some k_ ≠ ((.slice Ao9 t41002.length co9) : Value).ownBlock ∧ some k_ ≠ (v41007 : Value).ownBlock ∧ some k_ ≠ (v41024 : Value).ownBlock ∧ some k_ ≠ (v41033 : Value).ownBlock) v41042 t41040) ∧ Aside0 (Below w.heap.size w wc))
         case first => as_aux_lemma =>
          have H := HC49.out
          clear HC49
          by_cases c52 : t41041 = t41045
          rotate_left
          ·rw [if_neg c52] at H
           exact (laws_FnInterlace.j4_true _ _ _ _ _ _ _ _ _ _ _ HRT.out H).elim
          rw [if_pos c52] at H
          have c52b0 : (t41041 == t41045) = true := beq_iff_eq.mpr c52
          have c52b1 : (t41041 != t41045) = false := bne_eq_false_iff_eq.mpr c52
          clear c52
          (first | rw [c52b0] | (simp only [i64_w, i32_w]; rw [c52b0]) | skip)
          replace H := Option.bind_eq_some_iff.mp H
          obtain ⟨t41048, A530, H⟩ := H
          replace H : (laws_FnInterlace.j4 kj38 t41002 t41005 t41006 t41022 t41023 t41031 t41032 t41040 t41041 (!t41048)) = some r := H
          have A53 := Aside0.mk A530
          clear A530
          have H' := Aside0.mk H
          clear H
          obtain ⟨Ao54, co54, eo54⟩ := Kd.R_slice HO41043.out
          subst eo54
          obtain ⟨Ao55, co55, eo55⟩ := Kd.R_slice HO41047.out
          subst eo55
          go_wp2_with (first | (go_at_call 18; (with_reducible refine (laws_likeInts.calls kj38 _ _ t41040 _ _ t41044 t41048 _ ?side1 ?side2 ?side3 ?side4 A53.out).mono ?_); (case side1 => repeat (first | exact (Kd.R_reads' HO41043.out).2.2 | (with_reducible refine Kd.C_alloc ?_ _) | (with_reducible refine Kd.C_drewN ?_ _) | (with_reducible refine Kd.C_drew ?_))); (case side2 => exact (Kd.R_reads' HO41043.out).2.1); (case side3 => repeat (first | exact (Kd.R_reads' HO41047.out).2.2 | (with_reducible refine Kd.C_alloc ?_ _) | (with_reducible refine Kd.C_drewN ?_ _) | (with_reducible refine Kd.C_drew ?_))); (case side4 => exact (Kd.R_reads' HO41047.out).2.1); rintro e w' ⟨rfl, ⟨nd, rfl⟩⟩; (try first | exact ⟨rfl, _, World.drewN_drewN _ _ _⟩ | exact ⟨rfl, _, Eq.trans (World.drewN_drewN _ _ _) (congrArg (World.drewN _) (Nat.add_assoc _ _ _))⟩)))
          repeat (go_quiet (first | (go_at_call 18; (with_reducible refine (laws_likeInts.calls kj38 _ _ t41040 _ _ t41044 t41048 _ ?side1 ?side2 ?side3 ?side4 A53.out).mono ?_); (case side1 => repeat (first | exact (Kd.R_reads' HO41043.out).2.2 | (with_reducible refine Kd.C_alloc ?_ _) | (with_reducible refine Kd.C_drewN ?_ _) | (with_reducible refine Kd.C_drew ?_))); (case side2 => exact (Kd.R_reads' HO41043.out).2.1); (case side3 => repeat (first | exact (Kd.R_reads' HO41047.out).2.2 | (with_reducible refine Kd.C_alloc ?_ _) | (with_reducible refine Kd.C_drewN ?_ _) | (with_reducible refine Kd.C_drew ?_))); (case side4 => exact (Kd.R_reads' HO41047.out).2.1); rintro e w' ⟨rfl, ⟨nd, rfl⟩⟩; (try first | exact ⟨rfl, _, World.drewN_drewN _ _ _⟩ | exact ⟨rfl, _, Eq.trans (World.drewN_drewN _ _ _) (congrArg (World.drewN _) (Nat.add_assoc _ _ _))⟩))); try go_wp2_with (first | (go_at_call 18; (with_reducible refine (laws_likeInts.calls kj38 _ _ t41040 _ _ t41044 t41048 _ ?side1 ?side2 ?side3 ?side4 A53.out).mono ?_); (case side1 => repeat (first | exact (Kd.R_reads' HO41043.out).2.2 | (with_reducible refine Kd.C_alloc ?_ _) | (with_reducible refine Kd.C_drewN ?_ _) | (with_reducible refine Kd.C_drew ?_))); (case side2 => exact (Kd.R_reads' HO41043.out).2.1); (case side3 => repeat (first | exact (Kd.R_reads' HO41047.out).2.2 | (with_reducible refine Kd.C_alloc ?_ _) | (with_reducible refine Kd.C_drewN ?_ _) | (with_reducible refine Kd.C_drew ?_))); (case side4 => exact (Kd.R_reads' HO41047.out).2.1); rintro e w' ⟨rfl, ⟨nd, rfl⟩⟩; (try first | exact ⟨rfl, _, World.drewN_drewN _ _ _⟩ | exact ⟨rfl, _, Eq.trans (World.drewN_drewN _ _ _) (congrArg (World.drewN _) (Nat.add_assoc _ _ _))⟩))))
          go_meet
          case rel => exact ⟨_, (!t41048), (by first | rfl | (simp; done) | (simp [*]; done)), H', ⟨by have := HJ6.out; have := HJ19.out; have := HJ28.out; have := HJ38.out; first | omega | exact Nat.le_refl _⟩, ⟨by (with_reducible repeat (first | apply Kd.R_alloc | apply Kd.R_drewN | apply Kd.R_drew)); exact Kd.R_mono HO_3.out (fun _ hk => ⟨hk.1.1.1, ⟨hk.1.1.2.1, ⟨hk.1.1.2.2, hk.1.2⟩⟩⟩)⟩, ⟨by (with_reducible repeat (first | apply Kd.R_alloc | apply Kd.R_drewN | apply Kd.R_drew)); exact Kd.R_mono HO_4.out (fun _ hk => ⟨hk.1.1.1, ⟨hk.1.1.2.1, ⟨hk.1.1.2.2, hk.1.2⟩⟩⟩)⟩, ⟨by (with_reducible repeat (first | apply Kd.R_alloc | apply Kd.R_drewN | apply Kd.R_drew)); exact Kd.R_mono HO_14.out (fun _ hk => ⟨hk.1.1.1, ⟨hk.1.1.2.1, ⟨hk.1.1.2.2, hk.1.2⟩⟩⟩)⟩, ⟨by (with_reducible repeat (first | apply Kd.R_alloc | apply Kd.R_drewN | apply Kd.R_drew)); exact Kd.R_mono HO_18.out (fun _ hk => ⟨hk.1.1.1, ⟨hk.1.1.2.1, ⟨hk.1.1.2.2, hk.1.2⟩⟩⟩)⟩, ⟨by (with_reducible repeat (first | apply Kd.R_alloc | apply Kd.R_drewN | apply Kd.R_drew)); exact Kd.R_mono HO41043.out (fun _ hk => ⟨hk.1.1.1.1.2, ⟨hk.1.1.1.2, ⟨hk.1.1.2, hk.1.2⟩⟩⟩)⟩, ⟨by repeat (first | (with_reducible first | exact HB.out | apply below_alloc | apply pw_below_drewN | apply below_drew1) | exact HB.out)⟩⟩
         case rest => as_aux_lemma =>
          clear HC49
          try clear c1
          try clear c2
          try clear p2
          try clear c3
          try clear c4
          try clear c5
          try clear c12
          try clear c12b0
          try clear c12b1
          try clear c16
          try clear c25
          try clear c25b0
          try clear c25b1
          try clear c26
          try clear c32
          try clear c32b0
          try clear c32b1
          try clear c36
          try clear c42
          try clear c42b0
          try clear c42b1
          try clear c46
          try clear c52
          try clear c52b0
          try clear c52b1
          try clear p2
          obtain ⟨kq, x135_48, rfl, HA, HJ48, HO_3, HO_4, HO_14, HO_18, HO_22, HB⟩ := hcut
          cases kq with
          | zero => exact absurd HA.out (by simp [laws_FnInterlace.j4])
          | succ kj48 =>
           have H := HA.out
           clear HA
           simp only [laws_FnInterlace.j4] at H
           by_cases c56 : x135_48 = true
           ·subst c56
            have H1 : (some false) = some r := by rw [if_pos rfl] at H; exact H
            clear H
            have H := H1
            clear H1
            exact absurd ((Option.some.inj H).trans HRT.out) (by decide)
           replace c56 := Bool.eq_false_iff.mpr c56
           subst c56
           have H1 : (if t41006 = 0 then ((impl_ValueOfInterlace.f kj48 t41002 2).bind fun bt41049 => ((impl_CountCrossings.f kj48 t41002).bind fun bt41051 => (if bt41049.2 = 0 then (if 0 ≤ (IntKind.u64.wrap (wrap64 ((t41002.length : Int) / 2))) then (if bt41049.1 = (shl .i64 1 (IntKind.u64.wrap (wrap64 ((t41002.length : Int) / 2)))) then (if t41023 = 0 then (if t41032 = 0 then (if t41041 = 0 then (laws_FnInterlace.j5 kj48 t41022 t41031 t41040 (wrap64 ((t41002.length : Int) / 2)) bt41051.1 (bt41051.2 != 0)) else (laws_FnInterlace.j5 kj48 t41022 t41031 t41040 (wrap64 ((t41002.length : Int) / 2)) bt41051.1 true)) else (laws_FnInterlace.j5 kj48 t41022 t41031 t41040 (wrap64 ((t41002.length : Int) / 2)) bt41051.1 true)) else (laws_FnInterlace.j5 kj48 t41022 t41031 t41040 (wrap64 ((t41002.length : Int) / 2)) bt41051.1 true)) else (laws_FnInterlace.j5 kj48 t41022 t41031 t41040 (wrap64 ((t41002.length : Int) / 2)) bt41051.1 true)) else (none)) else (laws_FnInterlace.j5 kj48 t41022 t41031 t41040 (wrap64 ((t41002.length : Int) / 2)) bt41051.1 true)))) else (some ((t41005.length : Int) == 0))) = some r := by rw [if_neg (show ¬ (false = true) by decide)] at H; exact H
           clear H
           have H := H1
           clear H1
           by_cases c57 : t41006 = 0
           rotate_left
           ·rw [if_neg c57] at H
            have c57b0 : (t41006 == 0) = false := beq_eq_false_iff_ne.mpr c57
            have c57b1 : (t41006 != 0) = true := bne_iff_ne.mpr c57
            obtain rfl := Option.some.inj H
            obtain ⟨Ao112, co112, eo112⟩ := Kd.R_slice HO_4.out
            subst eo112
            go_wp2
            repeat (go_quiet (fail); try go_wp2)
            go_ret
            exact ⟨by first | rfl | (simp [errW_none, errW_some] <;> rfl) | (simp [*, errW_none, errW_some] <;> rfl), by repeat (first | (with_reducible first | exact HB.out | apply below_alloc | apply pw_below_drewN | apply below_drew1) | exact HB.out)⟩
           rw [if_pos c57] at H
           have c57b0 : (t41006 == 0) = true := beq_iff_eq.mpr c57
           have c57b1 : (t41006 != 0) = false := bne_eq_false_iff_eq.mpr c57
           clear c57
           replace H := Option.bind_eq_some_iff.mp H
           obtain ⟨⟨t41049, t41050⟩, A580, H⟩ := H
           replace H : ((impl_CountCrossings.f kj48 t41002).bind fun bt41051 => (if t41050 = 0 then (if 0 ≤ (IntKind.u64.wrap (wrap64 ((t41002.length : Int) / 2))) then (if t41049 = (shl .i64 1 (IntKind.u64.wrap (wrap64 ((t41002.length : Int) / 2)))) then (if t41023 = 0 then (if t41032 = 0 then (if t41041 = 0 then (laws_FnInterlace.j5 kj48 t41022 t41031 t41040 (wrap64 ((t41002.length : Int) / 2)) bt41051.1 (bt41051.2 != 0)) else (laws_FnInterlace.j5 kj48 t41022 t41031 t41040 (wrap64 ((t41002.length : Int) / 2)) bt41051.1 true)) else (laws_FnInterlace.j5 kj48 t41022 t41031 t41040 (wrap64 ((t41002.length : Int) / 2)) bt41051.1 true)) else (laws_FnInterlace.j5 kj48 t41022 t41031 t41040 (wrap64 ((t41002.length : Int) / 2)) bt41051.1 true)) else (laws_FnInterlace.j5 kj48 t41022 t41031 t41040 (wrap64 ((t41002.length : Int) / 2)) bt41051.1 true)) else (none)) else (laws_FnInterlace.j5 kj48 t41022 t41031 t41040 (wrap64 ((t41002.length : Int) / 2)) bt41051.1 true))) = some r := H
           have A58 := Aside0.mk A580
           clear A580
           replace H := Option.bind_eq_some_iff.mp H
           obtain ⟨⟨t41051, t41052⟩, A590, H⟩ := H
           replace H : (if t41050 = 0 then (if 0 ≤ (IntKind.u64.wrap (wrap64 ((t41002.length : Int) / 2))) then (if t41049 = (shl .i64 1 (IntKind.u64.wrap (wrap64 ((t41002.length : Int) / 2)))) then (if t41023 = 0 then (if t41032 = 0 then (if t41041 = 0 then (laws_FnInterlace.j5 kj48 t41022 t41031 t41040 (wrap64 ((t41002.length : Int) / 2)) t41051 (t41052 != 0)) else (laws_FnInterlace.j5 kj48 t41022 t41031 t41040 (wrap64 ((t41002.length : Int) / 2)) t41051 true)) else (laws_FnInterlace.j5 kj48 t41022 t41031 t41040 (wrap64 ((t41002.length : Int) / 2)) t41051 true)) else (laws_FnInterlace.j5 kj48 t41022 t41031 t41040 (wrap64 ((t41002.length : Int) / 2)) t41051 true)) else (laws_FnInterlace.j5 kj48 t41022 t41031 t41040 (wrap64 ((t41002.length : Int) / 2)) t41051 true)) else (none)) else (laws_FnInterlace.j5 kj48 t41022 t41031 t41040 (wrap64 ((t41002.length : Int) / 2)) t41051 true)) = some r := H
           have A59 := Aside0.mk A590
           clear A590
           have HC60 := Aside0.mk H
           clear H
           go_upto_region 30 with (first | (go_at_call 20; (with_reducible refine (impl_ValueOfInterlace.calls kj48 _ _ t41002 2 t41049 t41050 _ ?side1 ?side2 A58.out).mono ?_); (case side1 => repeat (first | exact (Kd.R_reads' HO_3.out).2.2 | (with_reducible refine Kd.C_alloc ?_ _) | (with_reducible refine Kd.C_drewN ?_ _) | (with_reducible refine Kd.C_drew ?_))); (case side2 => exact (Kd.R_reads' HO_3.out).2.1); rintro e w61 ⟨rfl, hb⟩; have n0_ := Aside0.mk (Kd.R_below (by (with_reducible repeat (first | apply Kd.R_alloc | apply Kd.R_drewN | apply Kd.R_drew)); exact HO_3.out) hb); have n1_ := Aside0.mk (Kd.R_below (by (with_reducible repeat (first | apply Kd.R_alloc | apply Kd.R_drewN | apply Kd.R_drew)); exact HO_4.out) hb); have n2_ := Aside0.mk (Kd.R_below (by (with_reducible repeat (first | apply Kd.R_alloc | apply Kd.R_drewN | apply Kd.R_drew)); exact HO_14.out) hb); have n3_ := Aside0.mk (Kd.R_below (by (with_reducible repeat (first | apply Kd.R_alloc | apply Kd.R_drewN | apply Kd.R_drew)); exact HO_18.out) hb); have n4_ := Aside0.mk (Kd.R_below (by (with_reducible repeat (first | apply Kd.R_alloc | apply Kd.R_drewN | apply Kd.R_drew)); exact HO_22.out) hb); have n5_ := Aside0.mk (below_step (by repeat (first | (with_reducible first | exact HB.out | apply below_alloc | apply pw_below_drewN | apply below_drew1) | exact HB.out)) hb); clear HO_3; clear HO_4; clear HO_14; clear HO_18; clear HO_22; clear HB; have HO_3 := n0_; have HO_4 := n1_; have HO_14 := n2_; have HO_18 := n3_; have HO_22 := n4_; have HB := n5_; clear n0_ n1_ n2_ n3_ n4_ n5_; (try clear hb); (try clear hb2); (try clear hk); (try clear hi)) | (go_at_call 28; (with_reducible refine (impl_CountCrossings.calls kj48 _ _ t41002 t41051 t41052 _ ?side1 ?side2 A59.out).mono ?_); (case side1 => repeat (first | exact (Kd.R_reads' HO_3.out).2.2 | (with_reducible refine Kd.C_alloc ?_ _) | (with_reducible refine Kd.C_drewN ?_ _) | (with_reducible refine Kd.C_drew ?_))); (case side2 => exact (Kd.R_reads' HO_3.out).2.1); rintro e w62 ⟨rfl, hb⟩; have n0_ := Aside0.mk (Kd.R_below (by (with_reducible repeat (first | apply Kd.R_alloc | apply Kd.R_drewN | apply Kd.R_drew)); exact HO_3.out) hb); have n1_ := Aside0.mk (Kd.R_below (by (with_reducible repeat (first | apply Kd.R_alloc | apply Kd.R_drewN | apply Kd.R_drew)); exact HO_4.out) hb); have n2_ := Aside0.mk (Kd.R_below (by (with_reducible repeat (first | apply Kd.R_alloc | apply Kd.R_drewN | apply Kd.R_drew)); exact HO_14.out) hb); have n3_ := Aside0.mk (Kd.R_below (by (with_reducible repeat (first | apply Kd.R_alloc | apply Kd.R_drewN | apply Kd.R_drew)); exact HO_18.out) hb); have n4_ := Aside0.mk (Kd.R_below (by (with_reducible repeat (first | apply Kd.R_alloc | apply Kd.R_drewN | apply Kd.R_drew)); exact HO_22.out) hb); have n5_ := Aside0.mk (below_step (by repeat (first | (with_reducible first | exact HB.out | apply below_alloc | apply pw_below_drewN | apply below_drew1) | exact HB.out)) hb); clear HO_3; clear HO_4; clear HO_14; clear HO_18; clear HO_22; clear HB; have HO_3 := n0_; have HO_4 := n1_; have HO_14 := n2_; have HO_18 := n3_; have HO_22 := n4_; have HB := n5_; clear n0_ n1_ n2_ n3_ n4_ n5_; (try clear hb); (try clear hb2); (try clear hk); (try clear hi)))
           repeat (go_quiet (first | (go_at_call 20; (with_reducible refine (impl_ValueOfInterlace.calls kj48 _ _ t41002 2 t41049 t41050 _ ?side1 ?side2 A58.out).mono ?_); (case side1 => repeat (first | exact (Kd.R_reads' HO_3.out).2.2 | (with_reducible refine Kd.C_alloc ?_ _) | (with_reducible refine Kd.C_drewN ?_ _) | (with_reducible refine Kd.C_drew ?_))); (case side2 => exact (Kd.R_reads' HO_3.out).2.1); rintro e w61 ⟨rfl, hb⟩; have n0_ := Aside0.mk (Kd.R_below (by (with_reducible repeat (first | apply Kd.R_alloc | apply Kd.R_drewN | apply Kd.R_drew)); exact HO_3.out) hb); have n1_ := Aside0.mk (Kd.R_below (by (with_reducible repeat (first | apply Kd.R_alloc | apply Kd.R_drewN | apply Kd.R_drew)); exact HO_4.out) hb); have n2_ := Aside0.mk (Kd.R_below (by (with_reducible repeat (first | apply Kd.R_alloc | apply Kd.R_drewN | apply Kd.R_drew)); exact HO_14.out) hb); have n3_ := Aside0.mk (Kd.R_below (by (with_reducible repeat (first | apply Kd.R_alloc | apply Kd.R_drewN | apply Kd.R_drew)); exact HO_18.out) hb); have n4_ := Aside0.mk (Kd.R_below (by (with_reducible repeat (first | apply Kd.R_alloc | apply Kd.R_drewN | apply Kd.R_drew)); exact HO_22.out) hb); have n5_ := Aside0.mk (below_step (by repeat (first | (with_reducible first | exact HB.out | apply below_alloc | apply pw_below_drewN | apply below_drew1) | exact HB.out)) hb); clear HO_3; clear HO_4; clear HO_14; clear HO_18; clear HO_22; clear HB; have HO_3 := n0_; have HO_4 := n1_; have HO_14 := n2_; have HO_18 := n3_; have HO_22 := n4_; have HB := n5_; clear n0_ n1_ n2_ n3_ n4_ n5_; (try clear hb); (try clear hb2); (try clear hk); (try clear hi)) | (go_at_call 28; (with_reducible refine (impl_CountCrossings.calls kj48 _ _ t41002 t41051 t41052 _ ?side1 ?side2 A59.out).mono ?_); (case side1 => repeat (first | exact (Kd.R_reads' HO_3.out).2.2 | (with_reducible refine Kd.C_alloc ?_ _) | (with_reducible refine Kd.C_drewN ?_ _) | (with_reducible refine Kd.C_drew ?_))); (case side2 => exact (Kd.R_reads' HO_3.out).2.1); rintro e w62 ⟨rfl, hb⟩; have n0_ := Aside0.mk (Kd.R_below (by (with_reducible repeat (first | apply Kd.R_alloc | apply Kd.R_drewN | apply Kd.R_drew)); exact HO_3.out) hb); have n1_ := Aside0.mk (Kd.R_below (by (with_reducible repeat (first | apply Kd.R_alloc | apply Kd.R_drewN | apply Kd.R_drew)); exact HO_4.out) hb); have n2_ := Aside0.mk (Kd.R_below (by (with_reducible repeat (first | apply Kd.R_alloc | apply Kd.R_drewN | apply Kd.R_drew)); exact HO_14.out) hb); have n3_ := Aside0.mk (Kd.R_below (by (with_reducible repeat (first | apply Kd.R_alloc | apply Kd.R_drewN | apply Kd.R_drew)); exact HO_18.out) hb); have n4_ := Aside0.mk (Kd.R_below (by (with_reducible repeat (first | apply Kd.R_alloc | apply Kd.R_drewN | apply Kd.R_drew)); exact HO_22.out) hb); have n5_ := Aside0.mk (below_step (by repeat (first | (with_reducible first | exact HB.out | apply below_alloc | apply pw_below_drewN | apply below_drew1) | exact HB.out)) hb); clear HO_3; clear HO_4; clear HO_14; clear HO_18; clear HO_22; clear HB; have HO_3 := n0_; have HO_4 := n1_; have HO_14 := n2_; have HO_18 := n3_; have HO_22 := n4_; have HB := n5_; clear n0_ n1_ n2_ n3_ n4_ n5_; (try clear hb); (try clear hb2); (try clear hk); (try clear hi))); go_upto_region 30 with (first | (go_at_call 20; (with_reducible refine (impl_ValueOfInterlace.calls kj48 _ _ t41002 2 t41049 t41050 _ ?side1 ?side2 A58.out).mono ?_); (case side1 => repeat (first | exact (Kd.R_reads' HO_3.out).2.2 | (with_reducible refine Kd.C_alloc ?_ _) | (with_reducible refine Kd.C_drewN ?_ _) | (with_reducible refine Kd.C_drew ?_))); (case side2 => exact (Kd.R_reads' HO_3.out).2.1); rintro e w61 ⟨rfl, hb⟩; have n0_ := Aside0.mk (Kd.R_below (by (with_reducible repeat (first | apply Kd.R_alloc | apply Kd.R_drewN | apply Kd.R_drew)); exact HO_3.out) hb); have n1_ := Aside0.mk (Kd.R_below (by (with_reducible repeat (first | apply Kd.R_alloc | apply Kd.R_drewN | apply Kd.R_drew)); exact HO_4.out) hb); have n2_ := Aside0.mk (Kd.R_below (by (with_reducible repeat (first | apply Kd.R_alloc | apply Kd.R_drewN | apply Kd.R_drew)); exact HO_14.out) hb); have n3_ := Aside0.mk (Kd.R_below (by (with_reducible repeat (first | apply Kd.R_alloc | apply Kd.R_drewN | apply Kd.R_drew)); exact HO_18.out) hb); have n4_ := Aside0.mk (Kd.R_below (by (with_reducible repeat (first | apply Kd.R_alloc | apply Kd.R_drewN | apply Kd.R_drew)); exact HO_22.out) hb); have n5_ := Aside0.mk (below_step (by repeat (first | (with_reducible first | exact HB.out | apply below_alloc | apply pw_below_drewN | apply below_drew1) | exact HB.out)) hb); clear HO_3; clear HO_4; clear HO_14; clear HO_18; clear HO_22; clear HB; have HO_3 := n0_; have HO_4 := n1_; have HO_14 := n2_; have HO_18 := n3_; have HO_22 := n4_; have HB := n5_; clear n0_ n1_ n2_ n3_ n4_ n5_; (try clear hb); (try clear hb2); (try clear hk); (try clear hi)) | (go_at_call 28; (with_reducible refine (impl_CountCrossings.calls kj48 _ _ t41002 t41051 t41052 _ ?side1 ?side2 A59.out).mono ?_); (case side1 => repeat (first | exact (Kd.R_reads' HO_3.out).2.2 | (with_reducible refine Kd.C_alloc ?_ _) | (with_reducible refine Kd.C_drewN ?_ _) | (with_reducible refine Kd.C_drew ?_))); (case side2 => exact (Kd.R_reads' HO_3.out).2.1); rintro e w62 ⟨rfl, hb⟩; have n0_ := Aside0.mk (Kd.R_below (by (with_reducible repeat (first | apply Kd.R_alloc | apply Kd.R_drewN | apply Kd.R_drew)); exact HO_3.out) hb); have n1_ := Aside0.mk (Kd.R_below (by (with_reducible repeat (first | apply Kd.R_alloc | apply Kd.R_drewN | apply Kd.R_drew)); exact HO_4.out) hb); have n2_ := Aside0.mk (Kd.R_below (by (with_reducible repeat (first | apply Kd.R_alloc | apply Kd.R_drewN | apply Kd.R_drew)); exact HO_14.out) hb); have n3_ := Aside0.mk (Kd.R_below (by (with_reducible repeat (first | apply Kd.R_alloc | apply Kd.R_drewN | apply Kd.R_drew)); exact HO_18.out) hb); have n4_ := Aside0.mk (Kd.R_below (by (with_reducible repeat (first | apply Kd.R_alloc | apply Kd.R_drewN | apply Kd.R_drew)); exact HO_22.out) hb); have n5_ := Aside0.mk (below_step (by repeat (first | (with_reducible first | exact HB.out | apply below_alloc | apply pw_below_drewN | apply below_drew1) | exact HB.out)) hb); clear HO_3; clear HO_4; clear HO_14; clear HO_18; clear HO_22; clear HB; have HO_3 := n0_; have HO_4 := n1_; have HO_14 := n2_; have HO_18 := n3_; have HO_22 := n4_; have HB := n5_; clear n0_ n1_ n2_ n3_ n4_ n5_; (try clear hb); (try clear hb2); (try clear hk); (try clear hi))))
           (try simp only [Act.put, List.setIfInBounds_toArray, List.set_cons_zero, List.set_cons_succ])
           go_cut [178] (fun v178 wc => ∃ (kq : Nat) (x178_59 : Bool), v178 = .bool x178_59 ∧ Aside0 (laws_FnInterlace.j5 kq t41022 t41031 t41040 (wrap64 ((t41002.length : Int) / 2)) t41051 x178_59 = some r) ∧ Aside0 (kq ≤ kj48) ∧ Aside0 (Kd.R (Kd.int .i64) 2 wc w.heap.size (fun k_ => some k_ ≠ (v41033 : Value).ownBlock ∧ some k_ ≠ (v41042 : Value).ownBlock) v41024 t41022) ∧ Aside0 (Kd.R (Kd.int .i64) 2 wc w.heap.size (fun k_ => some k_ ≠ (v41024 : Value).ownBlock ∧ some k_ ≠ (v41042 : Value).ownBlock) v41033 t41031) ∧ Aside0 (Kd.R (Kd.int .i64) 2 wc w.heap.size (fun k_ => some k_ ≠ (v41024 : Value).ownBlock ∧ some k_ ≠ (v41033 : Value).ownBlock) v41042 t41040) ∧ Aside0 (Below w.heap.size w wc))
           case first => as_aux_lemma =>
            have H := HC60.out
            clear HC60
            by_cases c63 : t41050 = 0
            rotate_left
            ·rw [if_neg c63] at H
             exact (laws_FnInterlace.j5_true _ _ _ _ _ _ _ HRT.out H).elim
            rw [if_pos c63] at H
            have c63b0 : (t41050 == 0) = true := beq_iff_eq.mpr c63
            have c63b1 : (t41050 != 0) = false := bne_eq_false_iff_eq.mpr c63
            clear c63
            (first | rw [c63b0] | (simp only [i64_w, i32_w]; rw [c63b0]) | skip)
            obtain ⟨ji64, hji64⟩ : ∃ j_ : Int, (IntKind.u64.wrap (wrap64 ((t41002.length : Int) / 2))) = j_ := ⟨_, rfl⟩
            replace H : (if 0 ≤ (ji64) then (if t41049 = (shl .i64 1 (ji64)) then (if t41023 = 0 then (if t41032 = 0 then (if t41041 = 0 then (laws_FnInterlace.j5 kj48 t41022 t41031 t41040 (wrap64 ((t41002.length : Int) / 2)) t41051 (t41052 != 0)) else (laws_FnInterlace.j5 kj48 t41022 t41031 t41040 (wrap64 ((t41002.length : Int) / 2)) t41051 true)) else (laws_FnInterlace.j5 kj48 t41022 t41031 t41040 (wrap64 ((t41002.length : Int) / 2)) t41051 true)) else (laws_FnInterlace.j5 kj48 t41022 t41031 t41040 (wrap64 ((t41002.length : Int) / 2)) t41051 true)) else (laws_FnInterlace.j5 kj48 t41022 t41031 t41040 (wrap64 ((t41002.length : Int) / 2)) t41051 true)) else (none)) = some r := by first | (rw [hji64] at H; exact H) | (simp only [hji64] at H ⊢; exact H)
            by_cases c65 : 0 ≤ (ji64)
            rotate_left
            ·rw [if_neg c65] at H
             exact absurd H (by simp)
            rw [if_pos c65] at H
            have c65b0 := eq_true c65
            have c65b1 : decide (0 ≤ (ji64)) = true := decide_eq_true c65
            clear c65
            obtain ⟨ji66, hji66⟩ : ∃ j_ : Int, (shl .i64 1 (ji64)) = j_ := ⟨_, rfl⟩
            replace H : (if t41049 = (ji66) then (if t41023 = 0 then (if t41032 = 0 then (if t41041 = 0 then (laws_FnInterlace.j5 kj48 t41022 t41031 t41040 (wrap64 ((t41002.length : Int) / 2)) t41051 (t41052 != 0)) else (laws_FnInterlace.j5 kj48 t41022 t41031 t41040 (wrap64 ((t41002.length : Int) / 2)) t41051 true)) else (laws_FnInterlace.j5 kj48 t41022 t41031 t41040 (wrap64 ((t41002.length : Int) / 2)) t41051 true)) else (laws_FnInterlace.j5 kj48 t41022 t41031 t41040 (wrap64 ((t41002.length : Int) / 2)) t41051 true)) else (laws_FnInterlace.j5 kj48 t41022 t41031 t41040 (wrap64 ((t41002.length : Int) / 2)) t41051 true)) = some r := by first | (rw [hji66] at H; exact H) | (simp only [hji66] at H ⊢; exact H)
            have hji66_ : (IntKind.i64.wrap (1 * 2 ^ min (ji64).toNat 64)) = ji66 := hji66
            have hji66z : (ji64) ≤ 64 → (IntKind.i64.wrap (1 * 2 ^ (ji64).toNat)) = ji66 := shl_small hji66
            have hji66u : (IntKind.i64.wrap (2 ^ min (ji64).toNat 64)) = ji66 := by have h_ := hji66_; rw [Int.one_mul] at h_; exact h_
            have hji66v : (ji64) ≤ 64 → (IntKind.i64.wrap (2 ^ (ji64).toNat)) = ji66 := fun hle_ => by have h_ := hji66z hle_; rw [Int.one_mul] at h_; exact h_
            have hji66y : (wrap64 (1 * 2 ^ min (ji64).toNat 64)) = ji66 := (i64_w _).symm.trans hji66_
            have hji66x : (ji64) ≤ 64 → (wrap64 (1 * 2 ^ (ji64).toNat)) = ji66 := fun h_ => (i64_w _).symm.trans (hji66z h_)
            by_cases c67 : t41049 = (ji66)
            rotate_left
            ·rw [if_neg c67] at H
             exact (laws_FnInterlace.j5_true _ _ _ _ _ _ _ HRT.out H).elim
            rw [if_pos c67] at H
            have c67b0 : (t41049 == (ji66)) = true := beq_iff_eq.mpr c67
            have c67b1 : (t41049 != (ji66)) = false := bne_eq_false_iff_eq.mpr c67
            clear c67
            by_cases c68 : t41023 = 0
            rotate_left
            ·rw [if_neg c68] at H
             exact (laws_FnInterlace.j5_true _ _ _ _ _ _ _ HRT.out H).elim
            rw [if_pos c68] at H
            have c68b0 : (t41023 == 0) = true := beq_iff_eq.mpr c68
            have c68b1 : (t41023 != 0) = false := bne_eq_false_iff_eq.mpr c68
            clear c68
            by_cases c69 : t41032 = 0
            rotate_left
            ·rw [if_neg c69] at H
             exact (laws_FnInterlace.j5_true _ _ _ _ _ _ _ HRT.out H).elim
            rw [if_pos c69] at H
            have c69b0 : (t41032 == 0) = true := beq_iff_eq.mpr c69
            have c69b1 : (t41032 != 0) = false := bne_eq_false_iff_eq.mpr c69
            clear c69
            by_cases c70 : t41041 = 0
            rotate_left
            ·rw [if_neg c70] at H
             exact (laws_FnInterlace.j5_true _ _ _ _ _ _ _ HRT.out H).elim
            rw [if_pos c70] at H
            have c70b0 : (t41041 == 0) = true := beq_iff_eq.mpr c70
            have c70b1 : (t41041 != 0) = false := bne_eq_false_iff_eq.mpr c70
            clear c70
            have H' := Aside0.mk H
            clear H
            go_wp2
            repeat (go_quiet (fail); try go_wp2)
            go_meet
            case rel => exact ⟨_, ((t41052 != 0)), (by first | rfl | (simp; done) | (simp [*]; done)), H', ⟨by have := HJ6.out; have := HJ19.out; have := HJ28.out; have := HJ38.out; have := HJ48.out; first | omega | exact Nat.le_refl _⟩, ⟨by (with_reducible repeat (first | apply Kd.R_alloc | apply Kd.R_drewN | apply Kd.R_drew)); exact Kd.R_mono HO_14.out (fun _ hk => ⟨hk.2.2.1, hk.2.2.2⟩)⟩, ⟨by (with_reducible repeat (first | apply Kd.R_alloc | apply Kd.R_drewN | apply Kd.R_drew)); exact Kd.R_mono HO_18.out (fun _ hk => ⟨hk.2.2.1, hk.2.2.2⟩)⟩, ⟨by (with_reducible repeat (first | apply Kd.R_alloc | apply Kd.R_drewN | apply Kd.R_drew)); exact Kd.R_mono HO_22.out (fun _ hk => ⟨hk.2.2.1, hk.2.2.2⟩)⟩, ⟨by repeat (first | (with_reducible first | exact HB.out | apply below_alloc | apply pw_below_drewN | apply below_drew1) | exact HB.out)⟩⟩
           case rest => as_aux_lemma =>
            clear HC60
            try clear c1
            try clear c2
            try clear p2
            try clear c3
            try clear c4
            try clear c5
            try clear c6
            try clear p6
            try clear c7
            try clear c12
            try clear c12b0
            try clear c12b1
            try clear c16
            try clear c25
            try clear c25b0
            try clear c25b1
            try clear c26
            try clear c32
            try clear c32b0
            try clear c32b1
            try clear c36
            try clear c42
            try clear c42b0
            try clear c42b1
            try clear c46
            try clear c52
            try clear c52b0
            try clear c52b1
            try clear c56
            try clear c57
            try clear c57b0
            try clear c57b1
            try clear c63
            try clear c63b0
            try clear c63b1
            try clear p64
            try clear c65
            try clear c65b0
            try clear c65b1
            try clear c67
            try clear c67b0
            try clear c67b1
            try clear c68
            try clear c68b0
            try clear c68b1
            try clear c69
            try clear c69b0
            try clear c69b1
            try clear c70
            try clear c70b0
            try clear c70b1
            try clear p2
            obtain ⟨kq, x178_59, rfl, HA, HJ59, HO_14, HO_18, HO_22, HB⟩ := hcut
            cases kq with
            | zero => exact absurd HA.out (by simp [laws_FnInterlace.j5])
            | succ kj59 =>
             have H := HA.out
             clear HA
             simp only [laws_FnInterlace.j5] at H
             by_cases c71 : x178_59 = true
             ·subst c71
              have H1 : (some false) = some r := by rw [if_pos rfl] at H; exact H
              clear H
              have H := H1
              clear H1
              exact absurd ((Option.some.inj H).trans HRT.out) (by decide)
             replace c71 := Bool.eq_false_iff.mpr c71
             subst c71
             have H1 : (if 0 < (t41022.length : Int) then (if (rd t41022 0) = 1 then (if 0 < (t41031.length : Int) then (if (rd t41031 0) = 1 then (if 0 < (t41040.length : Int) then (if (rd t41040 0) = 1 then (if (wrap64 ((t41002.length : Int) / 2)) < 2 then (some true) else (if 1 < (t41022.length : Int) then (if (rd t41022 1) = (wrap64 ((t41002.length : Int) / 2)) then (if 1 < (t41031.length : Int) then (if (rd t41031 1) = (wrap64 ((t41002.length : Int) / 2)) then (if 2 < (t41031.length : Int) then (if (rd t41031 2) = t41051 then (if 2 < (t41022.length : Int) then (if (wrap64 ((rd t41022 2) + (rd t41031 2))) = (wrap64 (Int.tdiv (wrap64 ((wrap64 ((t41002.length : Int) / 2)) * (wrap64 ((wrap64 ((t41002.length : Int) / 2)) - 1)))) 2)) then (if 1 < (t41040.length : Int) then (some ((rd t41040 1) == t41051)) else (none)) else (some false)) else (none)) else (some false)) else (none)) else (some false)) else (none)) else (some false)) else (none))) else (some false)) else (none)) else (some false)) else (none)) else (some false)) else (none)) = some r := by rw [if_neg (show ¬ (false = true) by decide)] at H; exact H
             clear H
             have H := H1
             clear H1
             by_cases c72 : 0 < (t41022.length : Int)
             rotate_left
             ·rw [if_neg c72] at H
              exact absurd H (by simp)
             rw [if_pos c72] at H
             have c72b0 : decide (0 < (t41022.length : Int)) = true := decide_eq_true c72
             have c72b1 : decide (0 < t41022.length) = true := decide_eq_true (by omega)
             clear c72
             by_cases c73 : (rd t41022 0) = 1
             rotate_left
             ·rw [if_neg c73] at H
              have c73b0 : ((rd t41022 0) == 1) = false := beq_eq_false_iff_ne.mpr c73
              have c73b1 : ((rd t41022 0) != 1) = true := bne_iff_ne.mpr c73
              exact absurd ((Option.some.inj H).trans HRT.out) (by decide)
             rw [if_pos c73] at H
             have c73b0 : ((rd t41022 0) == 1) = true := beq_iff_eq.mpr c73
             have c73b1 : ((rd t41022 0) != 1) = false := bne_eq_false_iff_eq.mpr c73
             clear c73
             by_cases c74 : 0 < (t41031.length : Int)
             rotate_left
             ·rw [if_neg c74] at H
              exact absurd H (by simp)
             rw [if_pos c74] at H
             have c74b0 : decide (0 < (t41031.length : Int)) = true := decide_eq_true c74
             have c74b1 : decide (0 < t41031.length) = true := decide_eq_true (by omega)
             clear c74
             by_cases c75 : (rd t41031 0) = 1
             rotate_left
             ·rw [if_neg c75] at H
              have c75b0 : ((rd t41031 0) == 1) = false := beq_eq_false_iff_ne.mpr c75
              have c75b1 : ((rd t41031 0) != 1) = true := bne_iff_ne.mpr c75
              exact absurd ((Option.some.inj H).trans HRT.out) (by decide)
             rw [if_pos c75] at H
             have c75b0 : ((rd t41031 0) == 1) = true := beq_iff_eq.mpr c75
             have c75b1 : ((rd t41031 0) != 1) = false := bne_eq_false_iff_eq.mpr c75
             clear c75
             by_cases c76 : 0 < (t41040.length : Int)
             rotate_left
             ·rw [if_neg c76] at H
              exact absurd H (by simp)
             rw [if_pos c76] at H
             have c76b0 : decide (0 < (t41040.length : Int)) = true := decide_eq_true c76
             have c76b1 : decide (0 < t41040.length) = true := decide_eq_true (by omega)
             clear c76
             by_cases c77 : (rd t41040 0) = 1
             rotate_left
             ·rw [if_neg c77] at H
              have c77b0 : ((rd t41040 0) == 1) = false := beq_eq_false_iff_ne.mpr c77
              have c77b1 : ((rd t41040 0) != 1) = true := bne_iff_ne.mpr c77
              exact absurd ((Option.some.inj H).trans HRT.out) (by decide)
             rw [if_pos c77] at H
             have c77b0 : ((rd t41040 0) == 1) = true := beq_iff_eq.mpr c77
             have c77b1 : ((rd t41040 0) != 1) = false := bne_eq_false_iff_eq.mpr c77
             clear c77
             by_cases c78 : (wrap64 ((t41002.length : Int) / 2)) < 2
             ·rw [if_pos c78] at H
              have c78b0 : decide ((wrap64 ((t41002.length : Int) / 2)) < 2) = true := decide_eq_true c78
              clear c78
              obtain rfl := Option.some.inj H
              obtain ⟨Ao79, co79, eo79⟩ := Kd.R_slice HO_14.out
              subst eo79
              have p41053 : 0 ≤ (0 : Int) := (by omega)
              have q41053 : 0 < (t41022.length : Int) := of_decide_eq_true (by first | (with_reducible assumption) | assumption)
              obtain ⟨ad41053, e41053, hx41053_0⟩ := Kd.at_int (Kd.R_reads' HO_14.out).2.2 0 p41053 q41053
              cases e41053
              have qi41053 : (0 < t41022.length) = True := eq_true (by omega)
              (try rw [show ((0 : Int)).toNat = 0 from rfl] at hx41053_0)
              (try rw [Addr.add_zero'] at hx41053_0)
              replace p41053 := eq_true p41053
              replace q41053 := eq_true q41053
              obtain ⟨Ao80, co80, eo80⟩ := Kd.R_slice HO_18.out
              subst eo80
              have p41054 : 0 ≤ (0 : Int) := (by omega)
              have q41054 : 0 < (t41031.length : Int) := of_decide_eq_true (by first | (with_reducible assumption) | assumption)
              obtain ⟨ad41054, e41054, hx41054_0⟩ := Kd.at_int (Kd.R_reads' HO_18.out).2.2 0 p41054 q41054
              cases e41054
              have qi41054 : (0 < t41031.length) = True := eq_true (by omega)
              (try rw [show ((0 : Int)).toNat = 0 from rfl] at hx41054_0)
              (try rw [Addr.add_zero'] at hx41054_0)
              replace p41054 := eq_true p41054
              replace q41054 := eq_true q41054
              obtain ⟨Ao81, co81, eo81⟩ := Kd.R_slice HO_22.out
              subst eo81
              have p41055 : 0 ≤ (0 : Int) := (by omega)
              have q41055 : 0 < (t41040.length : Int) := of_decide_eq_true (by first | (with_reducible assumption) | assumption)
              obtain ⟨ad41055, e41055, hx41055_0⟩ := Kd.at_int (Kd.R_reads' HO_22.out).2.2 0 p41055 q41055
              cases e41055
              have qi41055 : (0 < t41040.length) = True := eq_true (by omega)
              (try rw [show ((0 : Int)).toNat = 0 from rfl] at hx41055_0)
              (try rw [Addr.add_zero'] at hx41055_0)
              replace p41055 := eq_true p41055
              replace q41055 := eq_true q41055
              go_wp2
              repeat (go_quiet (fail); try go_wp2)
              go_ret
              exact ⟨by first | rfl | (simp [errW_none, errW_some] <;> rfl) | (simp [*, errW_none, errW_some] <;> rfl), by repeat (first | (with_reducible first | exact HB.out | apply below_alloc | apply pw_below_drewN | apply below_drew1) | exact HB.out)⟩
             rw [if_neg c78] at H
             have c78b0 : decide ((wrap64 ((t41002.length : Int) / 2)) < 2) = false := decide_eq_false c78
             clear c78
             by_cases c82 : 1 < (t41022.length : Int)
             rotate_left
             ·rw [if_neg c82] at H
              exact absurd H (by simp)
             rw [if_pos c82] at H
             have c82b0 : decide (1 < (t41022.length : Int)) = true := decide_eq_true c82
             have c82b1 : decide (1 < t41022.length) = true := decide_eq_true (by omega)
             clear c82
             by_cases c83 : (rd t41022 1) = (wrap64 ((t41002.length : Int) / 2))
             rotate_left
             ·rw [if_neg c83] at H
              have c83b0 : ((rd t41022 1) == (wrap64 ((t41002.length : Int) / 2))) = false := beq_eq_false_iff_ne.mpr c83
              have c83b1 : ((rd t41022 1) != (wrap64 ((t41002.length : Int) / 2))) = true := bne_iff_ne.mpr c83
              exact absurd ((Option.some.inj H).trans HRT.out) (by decide)
             rw [if_pos c83] at H
             have c83b0 : ((rd t41022 1) == (wrap64 ((t41002.length : Int) / 2))) = true := beq_iff_eq.mpr c83
             have c83b1 : ((rd t41022 1) != (wrap64 ((t41002.length : Int) / 2))) = false := bne_eq_false_iff_eq.mpr c83
             clear c83
             by_cases c84 : 1 < (t41031.length : Int)
             rotate_left
             ·rw [if_neg c84] at H
              exact absurd H (by simp)
             rw [if_pos c84] at H
             have c84b0 : decide (1 < (t41031.length : Int)) = true := decide_eq_true c84
             have c84b1 : decide (1 < t41031.length) = true := decide_eq_true (by omega)
             clear c84
             by_cases c85 : (rd t41031 1) = (wrap64 ((t41002.length : Int) / 2))
             rotate_left
             ·rw [if_neg c85] at H
              have c85b0 : ((rd t41031 1) == (wrap64 ((t41002.length : Int) / 2))) = false := beq_eq_false_iff_ne.mpr c85
              have c85b1 : ((rd t41031 1) != (wrap64 ((t41002.length : Int) / 2))) = true := bne_iff_ne.mpr c85
              exact absurd ((Option.some.inj H).trans HRT.out) (by decide)
             rw [if_pos c85] at H
             have c85b0 : ((rd t41031 1) == (wrap64 ((t41002.length : Int) / 2))) = true := beq_iff_eq.mpr c85
             have c85b1 : ((rd t41031 1) != (wrap64 ((t41002.length : Int) / 2))) = false := bne_eq_false_iff_eq.mpr c85
             clear c85
             by_cases c86 : 2 < (t41031.length : Int)
             rotate_left
             ·rw [if_neg c86] at H
              exact absurd H (by simp)
             rw [if_pos c86] at H
             have c86b0 : decide (2 < (t41031.length : Int)) = true := decide_eq_true c86
             have c86b1 : decide (2 < t41031.length) = true := decide_eq_true (by omega)
             clear c86
             by_cases c87 : (rd t41031 2) = t41051
             rotate_left
             ·rw [if_neg c87] at H
              have c87b0 : ((rd t41031 2) == t41051) = false := beq_eq_false_iff_ne.mpr c87
              have c87b1 : ((rd t41031 2) != t41051) = true := bne_iff_ne.mpr c87
              exact absurd ((Option.some.inj H).trans HRT.out) (by decide)
             rw [if_pos c87] at H
             have c87b0 : ((rd t41031 2) == t41051) = true := beq_iff_eq.mpr c87
             have c87b1 : ((rd t41031 2) != t41051) = false := bne_eq_false_iff_eq.mpr c87
             clear c87
             by_cases c88 : 2 < (t41022.length : Int)
             rotate_left
             ·rw [if_neg c88] at H
              exact absurd H (by simp)
             rw [if_pos c88] at H
             have c88b0 : decide (2 < (t41022.length : Int)) = true := decide_eq_true c88
             have c88b1 : decide (2 < t41022.length) = true := decide_eq_true (by omega)
             clear c88
             by_cases c89 : (wrap64 ((rd t41022 2) + (rd t41031 2))) = (wrap64 (Int.tdiv (wrap64 ((wrap64 ((t41002.length : Int) / 2)) * (wrap64 ((wrap64 ((t41002.length : Int) / 2)) - 1)))) 2))
             rotate_left
             ·rw [if_neg c89] at H
              have c89b0 : ((wrap64 ((rd t41022 2) + (rd t41031 2))) == (wrap64 (Int.tdiv (wrap64 ((wrap64 ((t41002.length : Int) / 2)) * (wrap64 ((wrap64 ((t41002.length : Int) / 2)) - 1)))) 2))) = false := beq_eq_false_iff_ne.mpr c89
              have c89b1 : ((wrap64 ((rd t41022 2) + (rd t41031 2))) != (wrap64 (Int.tdiv (wrap64 ((wrap64 ((t41002.length : Int) / 2)) * (wrap64 ((wrap64 ((t41002.length : Int) / 2)) - 1)))) 2))) = true := bne_iff_ne.mpr c89
              exact absurd ((Option.some.inj H).trans HRT.out) (by decide)
             rw [if_pos c89] at H
             have c89b0 : ((wrap64 ((rd t41022 2) + (rd t41031 2))) == (wrap64 (Int.tdiv (wrap64 ((wrap64 ((t41002.length : Int) / 2)) * (wrap64 ((wrap64 ((t41002.length : Int) / 2)) - 1)))) 2))) = true := beq_iff_eq.mpr c89
             have c89b1 : ((wrap64 ((rd t41022 2) + (rd t41031 2))) != (wrap64 (Int.tdiv (wrap64 ((wrap64 ((t41002.length : Int) / 2)) * (wrap64 ((wrap64 ((t41002.length : Int) / 2)) - 1)))) 2))) = false := bne_eq_false_iff_eq.mpr c89
             clear c89
             by_cases c90 : 1 < (t41040.length : Int)
             rotate_left
             ·rw [if_neg c90] at H
              exact absurd H (by simp)
             rw [if_pos c90] at H
             have c90b0 : decide (1 < (t41040.length : Int)) = true := decide_eq_true c90
             have c90b1 : decide (1 < t41040.length) = true := decide_eq_true (by omega)
             clear c90
             obtain rfl := Option.some.inj H
             obtain ⟨Ao91, co91, eo91⟩ := Kd.R_slice HO_14.out
             subst eo91
             have p41053 : 0 ≤ (0 : Int) := (by omega)
             have q41053 : 0 < (t41022.length : Int) := of_decide_eq_true (by first | (with_reducible assumption) | assumption)
             obtain ⟨ad41053, e41053, hx41053_0⟩ := Kd.at_int (Kd.R_reads' HO_14.out).2.2 0 p41053 q41053
             cases e41053
             have qi41053 : (0 < t41022.length) = True := eq_true (by omega)
             (try rw [show ((0 : Int)).toNat = 0 from rfl] at hx41053_0)
             (try rw [Addr.add_zero'] at hx41053_0)
             replace p41053 := eq_true p41053
             replace q41053 := eq_true q41053
             obtain ⟨Ao92, co92, eo92⟩ := Kd.R_slice HO_18.out
             subst eo92
             have p41054 : 0 ≤ (0 : Int) := (by omega)
             have q41054 : 0 < (t41031.length : Int) := of_decide_eq_true (by first | (with_reducible assumption) | assumption)
             obtain ⟨ad41054, e41054, hx41054_0⟩ := Kd.at_int (Kd.R_reads' HO_18.out).2.2 0 p41054 q41054
             cases e41054
             have qi41054 : (0 < t41031.length) = True := eq_true (by omega)
             (try rw [show ((0 : Int)).toNat = 0 from rfl] at hx41054_0)
             (try rw [Addr.add_zero'] at hx41054_0)
             replace p41054 := eq_true p41054
             replace q41054 := eq_true q41054
             obtain ⟨Ao93, co93, eo93⟩ := Kd.R_slice HO_22.out
             subst eo93
             have p41055 : 0 ≤ (0 : Int) := (by omega)
             have q41055 : 0 < (t41040.length : Int) := of_decide_eq_true (by first | (with_reducible assumption) | assumption)
             obtain ⟨ad41055, e41055, hx41055_0⟩ := Kd.at_int (Kd.R_reads' HO_22.out).2.2 0 p41055 q41055
             cases e41055
             have qi41055 : (0 < t41040.length) = True := eq_true (by omega)
             (try rw [show ((0 : Int)).toNat = 0 from rfl] at hx41055_0)
             (try rw [Addr.add_zero'] at hx41055_0)
             replace p41055 := eq_true p41055
             replace q41055 := eq_true q41055
             have p41056 : 0 ≤ (1 : Int) := (by omega)
             have q41056 : 1 < (t41022.length : Int) := of_decide_eq_true (by first | (with_reducible assumption) | assumption)
             obtain ⟨ad41056, e41056, hx41056_0⟩ := Kd.at_int (Kd.R_reads' HO_14.out).2.2 1 p41056 q41056
             obtain rfl : ad41053 = ad41056 := (by injection e41056)
             (try simp only [show (1 : Int).toNat = 1 from rfl, Nat.reduceMul, Nat.reduceEqDiff, Go.Addr.add, ↓reduceIte] at hx41056_0)
             have qi41056 : (1 < t41022.length) = True := eq_true (by omega)
             (try rw [show ((1 : Int)).toNat = 1 from rfl] at hx41056_0)
             replace p41056 := eq_true p41056
             replace q41056 := eq_true q41056
             have p41057 : 0 ≤ (1 : Int) := (by omega)
             have q41057 : 1 < (t41031.length : Int) := of_decide_eq_true (by first | (with_reducible assumption) | assumption)
             obtain ⟨ad41057, e41057, hx41057_0⟩ := Kd.at_int (Kd.R_reads' HO_18.out).2.2 1 p41057 q41057
             obtain rfl : ad41054 = ad41057 := (by injection e41057)
             (try simp only [show (1 : Int).toNat = 1 from rfl, Nat.reduceMul, Nat.reduceEqDiff, Go.Addr.add, ↓reduceIte] at hx41057_0)
             have qi41057 : (1 < t41031.length) = True := eq_true (by omega)
             (try rw [show ((1 : Int)).toNat = 1 from rfl] at hx41057_0)
             replace p41057 := eq_true p41057
             replace q41057 := eq_true q41057
             have p41058 : 0 ≤ (2 : Int) := (by omega)
             have q41058 : 2 < (t41031.length : Int) := of_decide_eq_true (by first | (with_reducible assumption) | assumption)
             obtain ⟨ad41058, e41058, hx41058_0⟩ := Kd.at_int (Kd.R_reads' HO_18.out).2.2 2 p41058 q41058
             obtain rfl : ad41054 = ad41058 := (by injection e41058)
             (try simp only [show (2 : Int).toNat = 2 from rfl, Nat.reduceMul, Nat.reduceEqDiff, Go.Addr.add, ↓reduceIte] at hx41058_0)
             have qi41058 : (2 < t41031.length) = True := eq_true (by omega)
             (try rw [show ((2 : Int)).toNat = 2 from rfl] at hx41058_0)
             replace p41058 := eq_true p41058
             replace q41058 := eq_true q41058
             have p41059 : 0 ≤ (2 : Int) := (by omega)
             have q41059 : 2 < (t41022.length : Int) := of_decide_eq_true (by first | (with_reducible assumption) | assumption)
             obtain ⟨ad41059, e41059, hx41059_0⟩ := Kd.at_int (Kd.R_reads' HO_14.out).2.2 2 p41059 q41059
             obtain rfl : ad41053 = ad41059 := (by injection e41059)
             (try simp only [show (2 : Int).toNat = 2 from rfl, Nat.reduceMul, Nat.reduceEqDiff, Go.Addr.add, ↓reduceIte] at hx41059_0)
             have qi41059 : (2 < t41022.length) = True := eq_true (by omega)
             (try rw [show ((2 : Int)).toNat = 2 from rfl] at hx41059_0)
             replace p41059 := eq_true p41059
             replace q41059 := eq_true q41059
             have p41060 : 0 ≤ (2 : Int) := (by omega)
             have q41060 : 2 < (t41031.length : Int) := of_decide_eq_true (by first | (with_reducible assumption) | assumption)
             obtain ⟨ad41060, e41060, hx41060_0⟩ := Kd.at_int (Kd.R_reads' HO_18.out).2.2 2 p41060 q41060
             obtain rfl : ad41054 = ad41060 := (by injection e41060)
             (try simp only [show (2 : Int).toNat = 2 from rfl, Nat.reduceMul, Nat.reduceEqDiff, Go.Addr.add, ↓reduceIte] at hx41060_0)
             have qi41060 : (2 < t41031.length) = True := eq_true (by omega)
             (try rw [show ((2 : Int)).toNat = 2 from rfl] at hx41060_0)
             replace p41060 := eq_true p41060
             replace q41060 := eq_true q41060
             have p41061 : 0 ≤ (1 : Int) := (by omega)
             have q41061 : 1 < (t41040.length : Int) := of_decide_eq_true (by first | (with_reducible assumption) | assumption)
             obtain ⟨ad41061, e41061, hx41061_0⟩ := Kd.at_int (Kd.R_reads' HO_22.out).2.2 1 p41061 q41061
             obtain rfl : ad41055 = ad41061 := (by injection e41061)
             (try simp only [show (1 : Int).toNat = 1 from rfl, Nat.reduceMul, Nat.reduceEqDiff, Go.Addr.add, ↓reduceIte] at hx41061_0)
             have qi41061 : (1 < t41040.length) = True := eq_true (by omega)
             (try rw [show ((1 : Int)).toNat = 1 from rfl] at hx41061_0)
             replace p41061 := eq_true p41061
             replace q41061 := eq_true q41061
             go_wp2
             repeat (go_quiet (fail); try go_wp2)
             go_ret
             exact ⟨by first | rfl | (simp [errW_none, errW_some] <;> rfl) | (simp [*, errW_none, errW_some] <;> rfl), by repeat (first | (with_reducible first | exact HB.out | apply below_alloc | apply pw_below_drewN | apply below_drew1) | exact HB.out)⟩
def laws_FnInterlace.Pure : Prop := ∀ (l0 : List Int), l0.length ≤ maxLen → l0.length * 1 ≤ 140737488351232 → (∀ x ∈ l0, (Lit.int .u8 x).wf = true) → ∃ k, laws_FnInterlace.f k l0 = some true
theorem laws_FnInterlace.walk (P : laws_FnInterlace.Pure) (a0 : Option Addr) (len0 cap0 : Nat) (z0 : List Int) (w : World) (w0 : (a0 = none ∧ len0 = 0 ∧ cap0 = 0 ∧ z0 = []) ∨ ∃ x, a0 = some x ∧ len0 ≤ cap0 ∧ cap0 ≤ maxLen ∧ z0.length = cap0 ∧ (∀ i, i < z0.length → w.cell? (x.add i) = some (.int .u8 (z0.getD i 0))) ∧ ∀ n ∈ z0, (Lit.int .u8 n).wf = true) (y0 : len0 * 1 ≤ 140737488351232) :
  Calls Tryz.prog 4 #[.slice a0 len0 cap0] w fun e w' => e = .returned (.bool true) ∧ Below w.heap.size w w' := by
 obtain ⟨l0, rfl, hr0, hm0, hw0, hc0⟩ := ReadsInt.ofRowC w0
 obtain ⟨k, h⟩ := P l0 hm0 y0 hw0
 refine (laws_FnInterlace.calls k _ _ l0 true w (Kd.C_of_reads (d := (0 : Int)) (h1 := fun _ => rfl) hr0) hc0 h rfl).mono ?_
 rintro e w' ⟨rfl, hd⟩
 exact ⟨rfl, hd⟩
end Go.Proofs.YtcnekpdoldljgaaGreat.F
end
section
namespace Go.Proofs.YtcnekpdoldljgaaGreat.Pure
open Go.RowKit Go.Proofs.YtcnekpdoldljgaaGreat.F Go.Proofs.YtcnekpdoldljgaaGreatW.PrintWords Go.Proofs.YtcnekpdoldljgaaGreatW.PrintLast
set_option linter.unusedVariables false
set_option linter.unusedSimpArgs false
structure Src (c : List Int) (s : Int) : Prop where
  len : c.length ≤ 4096
  byte : ∀ x ∈ c, 0 ≤ x ∧ x ≤ 255
  lo : 0 ≤ s
  hi : s ≤ (c.length : Int)
def Fit64 (l : List Int) : Prop := ∀ x ∈ l, (Lit.int .i64 x).wf = true
theorem ownD_f (x : List Int) (h : x.length ≤ 1048576) : spec_l01Own.f x = some x := by
  unfold spec_l01Own.f
  simp only [Option.bind_some, List.length_nil, List.nil_append]
  rw [if_pos (by omega)]
theorem fit_wrap (y : Int) : (Lit.int .i64 (wrap64 y)).wf = true := WalkArith.wf_i64 (by unfold wrap64; omega)
theorem and_mask (X : Int) : 0 ≤ Go.bits .and .u64 (IntKind.u64.wrap X / 8589934592) 16777215 ∧ Go.bits .and .u64 (IntKind.u64.wrap X / 8589934592) 16777215 ≤ 16777215 := by
  have h : IntKind.u64.wrap X = X % 18446744073709551616 := by simp [IntKind.wrap, IntKind.bits, IntKind.signed]
  rw [h]
  obtain ⟨a, ha⟩ : ∃ a : Nat, X % 18446744073709551616 / 8589934592 = (a : Int) := ⟨(X % 18446744073709551616 / 8589934592).toNat, by omega⟩
  have hb : a < 18446744073709551616 := by omega
  rw [ha]
  have e := bits_and_u64_nat a 16777215 hb (by decide)
  have h2 : (((16777215 : Nat) : Int)) = (16777215 : Int) := rfl
  rw [h2] at e
  rw [e]
  have := Nat.and_le_right (n := a) (m := 16777215)
  omega
theorem next_ok {c : List Int} {s : Int} (h : Src c s) (s2 n : Int) (hn : n ≤ 1000000) : ∃ x s' s2', spec_l01Next.f c s s2 n = some (x, s', s2') ∧ Src c s' ∧ 0 ≤ x ∧ (x < n ∨ (n < 1 ∧ x = 0)) := by
  unfold spec_l01Next.f
  by_cases h1 : n < 1
  · rw [if_pos h1]; exact ⟨0, s, s2, rfl, h, Int.le_refl _, .inr ⟨h1, rfl⟩⟩
  · rw [if_neg h1]
    have hb := and_mask (IntKind.u64.wrap (s2 * 6364136223846793005) + 1442695040888963407)
    generalize Go.bits .and .u64 (IntKind.u64.wrap (IntKind.u64.wrap (s2 * 6364136223846793005) + 1442695040888963407) / 8589934592) 16777215 = B at hb ⊢
    have w1 : wrap64 B = B := by unfold wrap64; omega
    have hlo := h.lo
    have hhi := h.hi
    have hl := h.len
    by_cases h2 : s < (c.length : Int)
    · rw [if_pos h2, if_pos hlo, if_neg (by omega)]
      obtain ⟨i, rfl⟩ : ∃ i : Nat, s = (i : Int) := ⟨s.toNat, by omega⟩
      rw [rdN]
      have hx : 0 ≤ c.getD i 0 ∧ c.getD i 0 ≤ 255 := by
        rw [List.getD_eq_getElem?_getD, List.getElem?_eq_getElem (by omega)]
        exact h.byte _ (List.getElem_mem _)
      generalize c.getD i 0 = y at hx ⊢
      have w2 : wrap64 y = y := by unfold wrap64; omega
      have w3 : wrap64 (B + y) = B + y := by unfold wrap64; omega
      have w4 : wrap64 ((i : Int) + 1) = (i : Int) + 1 := by unfold wrap64; omega
      rw [w1, w2, w3, w4]
      exact ⟨_, _, _, rfl, ⟨hl, h.byte, by omega, by omega⟩, Int.tmod_nonneg _ (by omega), .inl (Int.tmod_lt_of_pos _ (by omega))⟩
    · rw [if_neg h2, if_neg (by omega), w1]
      exact ⟨_, _, _, rfl, h, Int.tmod_nonneg _ (by omega), .inl (Int.tmod_lt_of_pos _ (by omega))⟩
theorem from_ok (c : List Int) (hl : c.length ≤ 4096) (hb : ∀ x ∈ c, 0 ≤ x ∧ x ≤ 255) : ∃ s2, Ev (fun k => spec_l01From.f k c) (c, 0, s2) ∧ Src c 0 := by
  have key : ∀ d i (s2 : Int), i + d = c.length → ∃ s2', Ev (fun k => spec_l01From.l0 k c (i : Int) c 0 s2) (c, 0, s2') := by
    intro d
    induction d with
    | zero =>
      intro i s2 hi
      refine ⟨s2, Ev_succ ?_⟩
      simp only [spec_l01From.l0]
      exact Ev.congr (fun k => if_neg (by omega)) (Ev.now _)
    | succ d ih =>
      intro i s2 hi
      obtain ⟨s2', h⟩ := ih (i + 1) (IntKind.u64.wrap ((IntKind.u64.wrap ((IntKind.u64.wrap (s2 * 1099511628211)) + (IntKind.u64.wrap (rd c i)))) + 113)) (by omega)
      refine ⟨s2', Ev_succ ?_⟩
      simp only [spec_l01From.l0]
      refine Ev.congr (fun k => if_pos (by omega)) (Ev.congr (fun k => if_pos (by omega)) (Ev.congr (fun k => if_pos (by omega)) ?_))
      rw [wS (n := i) (by omega)]
      exact h
  unfold spec_l01From.f
  obtain ⟨s2', h⟩ := key c.length 0 (IntKind.u64.wrap (13031 + (IntKind.u64.wrap ((c.length : Int))))) (by omega)
  exact ⟨s2', h, ⟨hl, hb, Int.le_refl _, by omega⟩⟩
theorem pick_ok {c : List Int} {s : Int} (h : Src c s) (s2 : Int) (l : List Int) (h0 : 0 < l.length) (h1 : l.length ≤ 1000) : ∃ i s' s2', i < l.length ∧ spec_l01Pick.f c s s2 l = some (l.getD i 0, s', s2') ∧ Src c s' := by
  obtain ⟨x, s', s2', e, hs, hx, hlt⟩ := next_ok h s2 (l.length : Int) (by omega)
  have hx2 : x < (l.length : Int) := by rcases hlt with g | g <;> omega
  obtain ⟨i, rfl⟩ : ∃ i : Nat, x = (i : Int) := ⟨x.toNat, by omega⟩
  refine ⟨i, s', s2', by omega, ?_, hs⟩
  unfold spec_l01Pick.f
  rw [e]
  simp only [Option.bind_some]
  rw [if_pos hx, if_pos hx2, rdN]
theorem nrm_length (l : List Int) : (nrm l).length = l.length := by
  refine snocInd (P := fun l => (nrm l).length = l.length) rfl ?_ l
  intro l y h
  rw [nrm_snoc, List.length_append, List.length_append, h]; rfl
theorem mets_le (l : List Int) : (mets l).length ≤ l.length := by
  refine snocInd (P := fun l => (mets l).length ≤ l.length) (by rw [mets_nil]; exact Nat.le_refl _) ?_ l
  intro l y h
  rw [mets_snoc, List.length_append, List.length_singleton]
  split
  · omega
  · rw [List.length_append, List.length_singleton]; omega
theorem nrm_fit (l : List Int) (h : l.length ≤ 1048576) : Fit64 (nrm l) := by
  intro x hx
  obtain ⟨i, hi, rfl⟩ := (nrm_mem l x).1 hx
  have := mets_le l
  exact WalkArith.wf_i64 (by omega)
theorem add_ok (l : List Int) (p q : Int) (hl : l.length ≤ 1000) (h0 : 0 ≤ p) (h1 : p ≤ q) (h2 : q ≤ (l.length : Int)) : ∃ r, Ev (fun k => spec_l01Add.f k l p q) r ∧ r.length = l.length + 2 ∧ Fit64 r := by
  obtain ⟨a, rfl⟩ : ∃ a : Nat, p = (a : Int) := ⟨p.toNat, by omega⟩
  obtain ⟨b, rfl⟩ : ∃ b : Nat, q = (b : Int) := ⟨q.toNat, by omega⟩
  have hab : a ≤ b := by omega
  have hb : b ≤ l.length := by omega
  obtain ⟨z, hz⟩ : ∃ z, z = l.take a ++ [99] ++ (l.take b).drop a ++ [99] ++ l.drop b := ⟨_, rfl⟩
  have hzl : z.length = l.length + 2 := by rw [hz]; simp; omega
  refine ⟨nrm z, ?_, by rw [nrm_length]; exact hzl, nrm_fit z (by omega)⟩
  unfold spec_l01Add.f
  simp only [Int.toNat_natCast]
  refine Ev.congr (fun k => if_pos h0) (Ev.congr (fun k => if_pos (by omega)) ?_)
  rw [ownD_f _ (by rw [List.length_take]; omega)]
  simp only [Option.bind_some]
  refine Ev.congr (fun k => if_pos (by rw [List.length_take]; omega)) (Ev.congr (fun k => if_pos h1) (Ev.congr (fun k => if_pos h2) (Ev.congr (fun k => if_pos (by simp; omega)) (Ev.congr (fun k => if_pos (by simp; omega)) (Ev.congr (fun k => if_pos (by omega)) (Ev.congr (fun k => if_pos (by simp; omega)) ?_))))))
  rw [← hz]
  exact Ev.bind (normal_ev z (by omega)) (Ev.now _)
theorem drawOf_ok {c : List Int} {s : Int} (h : Src c s) (s2 : Int) (n : Nat) (hn : n ≤ 100) : ∃ out s' s2', Ev (fun k => spec_l01DrawOf.f k c s s2 (n : Int)) (out, s', s2') ∧ Src c s' ∧ out.length = 2 * n ∧ Fit64 out := by
  have key : ∀ d i (l : List Int) (s s2 : Int), Src c s → i + d = n → l.length = 2 * i → Fit64 l → ∃ out s' s2', Ev (fun k => spec_l01DrawOf.l0 k (n : Int) l (i : Int) c s s2) (out, s', s2') ∧ Src c s' ∧ out.length = 2 * n ∧ Fit64 out := by
    intro d
    induction d with
    | zero =>
      intro i l s s2 h hi hl hf
      refine ⟨l, s, s2, Ev_succ ?_, h, by omega, hf⟩
      simp only [spec_l01DrawOf.l0]
      exact Ev.congr (fun k => if_neg (by omega)) (Ev.now _)
    | succ d ih =>
      intro i l s s2 h hi hl hf
      have w1 : wrap64 ((l.length : Int) + 1) = (l.length : Int) + 1 := by unfold wrap64; omega
      obtain ⟨q, s1, t1, e1, hs1, hq, hq2⟩ := next_ok h s2 ((l.length : Int) + 1) (by omega)
      have hq3 : q ≤ (l.length : Int) := by rcases hq2 with g | g <;> omega
      have w2 : wrap64 (q + 1) = q + 1 := by unfold wrap64; omega
      obtain ⟨p, s3, t3, e3, hs3, hp, hp2⟩ := next_ok hs1 t1 (q + 1) (by omega)
      have hp3 : p ≤ q := by rcases hp2 with g | g <;> omega
      obtain ⟨r, hr, hrl, hrf⟩ := add_ok l p q (by omega) hp hp3 hq3
      obtain ⟨out, s', s2', ho, g1, g2, g3⟩ := ih (i + 1) r s3 t3 hs3 (by omega) (by omega) hrf
      refine ⟨out, s', s2', Ev_succ ?_, g1, g2, g3⟩
      simp only [spec_l01DrawOf.l0]
      refine Ev.congr (fun k => if_pos (by omega)) ?_
      rw [w1, e1]
      simp only [Option.bind_some]
      rw [w2, e3]
      simp only [Option.bind_some]
      refine Ev.bind hr ?_
      rw [wS (n := i) (by omega)]
      exact ho
  unfold spec_l01DrawOf.f
  exact key n 0 [] s s2 h (by omega) rfl (fun x hx => absurd hx (by simp))
theorem draw_ok {c : List Int} {s : Int} (h : Src c s) (s2 : Int) : ∃ out s' s2', Ev (fun k => spec_l01Draw.f k c s s2) (out, s', s2') ∧ Src c s' ∧ out.length ≤ 12 ∧ Fit64 out := by
  obtain ⟨i, s1, t1, hi, e1, hs1⟩ := pick_ok h s2 [0, 1, 2, 2, 3, 3, 4, 4, 5, 6] (by decide) (by decide)
  obtain ⟨n, hn, hn6⟩ : ∃ n : Nat, ([0, 1, 2, 2, 3, 3, 4, 4, 5, 6] : List Int).getD i 0 = (n : Int) ∧ n ≤ 6 := by
    have : i < 10 := hi
    match i, this with
    | 0, _ => exact ⟨0, rfl, by decide⟩
    | 1, _ => exact ⟨1, rfl, by decide⟩
    | 2, _ => exact ⟨2, rfl, by decide⟩
    | 3, _ => exact ⟨2, rfl, by decide⟩
    | 4, _ => exact ⟨3, rfl, by decide⟩
    | 5, _ => exact ⟨3, rfl, by decide⟩
    | 6, _ => exact ⟨4, rfl, by decide⟩
    | 7, _ => exact ⟨4, rfl, by decide⟩
    | 8, _ => exact ⟨5, rfl, by decide⟩
    | 9, _ => exact ⟨6, rfl, by decide⟩
  obtain ⟨out, s', s2', ho, g1, g2, g3⟩ := drawOf_ok hs1 t1 n (by omega)
  refine ⟨out, s', s2', ?_, g1, by omega, g3⟩
  unfold spec_l01Draw.f
  rw [e1]
  simp only [Option.bind_some]
  rw [hn]
  exact Ev.bind ho (Ev.now _)
theorem join_ok (a b : List Int) (ha : a.length ≤ 1000) (hb : b.length ≤ 1000) (hf : Fit64 a) : ∃ r, Ev (fun k => spec_l01Join.f k a b) r ∧ r.length = a.length + b.length ∧ Fit64 r := by
  have key : ∀ d i (r : List Int), i + d = b.length → r.length = a.length + i → Fit64 r → ∃ r', Ev (fun k => spec_l01Join.l0 k a b r (i : Int)) r' ∧ r'.length = a.length + b.length ∧ Fit64 r' := by
    intro d
    induction d with
    | zero =>
      intro i r hi hr hf
      refine ⟨r, Ev_succ ?_, by omega, hf⟩
      simp only [spec_l01Join.l0]
      exact Ev.congr (fun k => if_neg (by omega)) (Ev.now _)
    | succ d ih =>
      intro i r hi hr hf
      obtain ⟨r', h1, h2, h3⟩ := ih (i + 1) (r ++ [wrap64 ((rd b i) + (wrap64 ((a.length : Int) / 2)))]) (by omega) (by simp; omega) (fun x hx => by
        rcases List.mem_append.1 hx with g | g
        · exact hf x g
        · simp at g; rw [g]; exact fit_wrap _)
      refine ⟨r', Ev_succ ?_, h2, h3⟩
      simp only [spec_l01Join.l0]
      refine Ev.congr (fun k => if_pos (by omega)) (Ev.congr (fun k => if_pos (by omega)) (Ev.congr (fun k => if_pos (by omega)) ?_))
      rw [wS (n := i) (by omega)]
      exact h1
  unfold spec_l01Join.f
  rw [ownD_f a (by omega)]
  simp only [Option.bind_some]
  exact key b.length 0 a (by omega) (by omega) hf
theorem bad_ok {c : List Int} {s : Int} (h : Src c s) (s2 : Int) (l : List Int) (hl : l.length ≤ 100) (hf : Fit64 l) : ∃ out s' s2', Ev (fun k => spec_l01Bad.f k c s s2 l) (out, s', s2') ∧ Src c s' ∧ out.length ≤ 2 * l.length + 14 ∧ Fit64 out := by
  obtain ⟨x, s1, t1, e1, hs1, hx, hx2⟩ := next_ok h s2 40 (by decide)
  have fit_pick : ∀ (z : List Int) (i : Nat), i < z.length → Fit64 z → (Lit.int .i64 (z.getD i 0)).wf = true := fun z i hi hz => by
    rw [List.getD_eq_getElem?_getD, List.getElem?_eq_getElem hi]; exact hz _ (List.getElem_mem _)
  unfold spec_l01Bad.f
  rw [e1]
  simp only [Option.bind_some]
  rw [ownD_f l (by omega)]
  simp only [Option.bind_some]
  by_cases h0 : x = 0
  · obtain ⟨i, s3, t3, hi, e3, hs3⟩ := pick_ok hs1 t1 [0, wrap64 ((l.length : Int) / 2)] (by simp) (by simp)
    refine ⟨l ++ [([0, wrap64 ((l.length : Int) / 2)] : List Int).getD i 0], s3, t3, ?_, hs3, by simp; omega, fun y hy => ?_⟩
    · refine Ev.congr (fun k => if_pos h0) ?_
      rw [e3]
      simp only [Option.bind_some]
      exact Ev.congr (fun k => if_pos (by omega)) (Ev.now _)
    · rcases List.mem_append.1 hy with g | g
      · exact hf y g
      · rw [List.mem_singleton] at g
        rw [g]
        refine fit_pick _ i hi (fun z hz => ?_)
        rcases List.mem_cons.1 hz with q | q
        · rw [q]; decide
        · rw [List.mem_singleton] at q; rw [q]; exact fit_wrap _
  · by_cases h1 : x = 1
    · by_cases hp : (l.length : Int) > 0
      · obtain ⟨y, s3, t3, e3, hs3, hy, hy2⟩ := next_ok hs1 t1 (l.length : Int) (by omega)
        have hy3 : y < (l.length : Int) := by rcases hy2 with g | g <;> omega
        obtain ⟨i, s4, t4, hi, e4, hs4⟩ := pick_ok hs3 t3 [0, 1, (-1), 7] (by decide) (by decide)
        refine ⟨l.set y.toNat (([0, 1, (-1), 7] : List Int).getD i 0), s4, t4, ?_, hs4, by simp; omega, fun z hz => ?_⟩
        · refine Ev.congr (fun k => if_neg h0) (Ev.congr (fun k => if_pos h1) (Ev.congr (fun k => if_pos hp) ?_))
          rw [e3]
          simp only [Option.bind_some]
          rw [e4]
          simp only [Option.bind_some]
          exact Ev.congr (fun k => if_pos hy) (Ev.congr (fun k => if_pos hy3) (Ev.now _))
        · rcases List.mem_or_eq_of_mem_set hz with g | g
          · exact hf z g
          · rw [g]
            refine fit_pick _ i hi (fun z hz => ?_)
            simp at hz
            rcases hz with q | q | q | q <;> (rw [q]; decide)
      · exact ⟨l, s1, t1, Ev.congr (fun k => if_neg h0) (Ev.congr (fun k => if_pos h1) (Ev.congr (fun k => if_neg hp) (Ev.now _))), hs1, by omega, hf⟩
    · by_cases h2 : x = 2
      · have key : ∀ d i (r : List Int), i + d = l.length → r.length = l.length → Fit64 r → ∃ r', Ev (fun k => spec_l01Bad.l0 k r (i : Int) c s1 t1) (r', s1, t1) ∧ r'.length = l.length ∧ Fit64 r' := by
          intro d
          induction d with
          | zero =>
            intro i r hi hr hf
            refine ⟨r, Ev_succ ?_, hr, hf⟩
            simp only [spec_l01Bad.l0]
            exact Ev.congr (fun k => if_neg (by omega)) (Ev.now _)
          | succ d ih =>
            intro i r hi hr hf
            obtain ⟨r', g1, g2, g3⟩ := ih (i + 1) (r.set i (wrap64 ((rd r i) + 1))) (by omega) (by rw [List.length_set]; exact hr) (fun z hz => by
              rcases List.mem_or_eq_of_mem_set hz with g | g
              · exact hf z g
              · rw [g]; exact fit_wrap _)
            refine ⟨r', Ev_succ ?_, g2, g3⟩
            simp only [spec_l01Bad.l0]
            refine Ev.congr (fun k => if_pos (by omega)) (Ev.congr (fun k => if_pos (by omega)) ?_)
            rw [Int.toNat_natCast, wS (n := i) (by omega)]
            exact g1
        obtain ⟨r', g1, g2, g3⟩ := key l.length 0 l (by omega) rfl hf
        exact ⟨r', s1, t1, Ev.congr (fun k => if_neg h0) (Ev.congr (fun k => if_neg h1) (Ev.congr (fun k => if_pos h2) g1)), hs1, by omega, g3⟩
      · by_cases h3 : x = 3
        · obtain ⟨a, a1, a2, a3⟩ := join_ok l l (by omega) (by omega) hf
          obtain ⟨b, b1, b2, b3⟩ := join_ok a [0, 1, 0, 1, 2, 3, 2, 3, 4, 4, 5, 5, 6, 6] (by omega) (by decide) a3
          refine ⟨b, s1, t1, Ev.congr (fun k => if_neg h0) (Ev.congr (fun k => if_neg h1) (Ev.congr (fun k => if_neg h2) (Ev.congr (fun k => if_pos h3) (Ev.bind a1 (Ev.bind b1 (Ev.now _)))))), hs1, ?_, b3⟩
          rw [b2, a2]; simp; omega
        · exact ⟨l, s1, t1, Ev.congr (fun k => if_neg h0) (Ev.congr (fun k => if_neg h1) (Ev.congr (fun k => if_neg h2) (Ev.congr (fun k => if_neg h3) (Ev.now _)))), hs1, by omega, hf⟩
theorem spoil_ok {c : List Int} {s : Int} (h : Src c s) (s2 : Int) : ∃ out s' s2', Ev (fun k => spec_l01Spoil.f k c s s2) (out, s', s2') ∧ Src c s' ∧ out.length ≤ 38 ∧ Fit64 out := by
  obtain ⟨l, s1, t1, e1, hs1, hl, hf⟩ := draw_ok h s2
  obtain ⟨o, s3, t3, e3, hs3, hl3, hf3⟩ := bad_ok hs1 t1 l (by omega) hf
  refine ⟨o, s3, t3, ?_, hs3, by omega, hf3⟩
  unfold spec_l01Spoil.f
  exact Ev.bind e1 (Ev.bind e3 (Ev.now _))
end Go.Proofs.YtcnekpdoldljgaaGreat.Pure
end
section
namespace Go.Proofs.YtcnekpdoldljgaaGreat.Pure
open Go.RowKit Go.Proofs.YtcnekpdoldljgaaGreat.F Go.Proofs.YtcnekpdoldljgaaGreatW.PrintWords Go.Proofs.YtcnekpdoldljgaaGreatW.PrintLast
theorem like_ev (l : List Int) (hl : l.length ≤ 1048576) : Ev (fun k => laws_likeInts.f k l l) true := by
  have key : ∀ d i, i + d = l.length → Ev (fun k => laws_likeInts.l0 k l l (i : Int)) true := by
    intro d
    induction d with
    | zero =>
      intro i hi
      refine Ev_succ ?_
      simp only [laws_likeInts.l0]
      exact Ev.congr (fun k => if_neg (by omega)) (Ev.now _)
    | succ d ih =>
      intro i hi
      refine Ev_succ ?_
      simp only [laws_likeInts.l0]
      refine Ev.congr (fun k => if_pos (by omega)) (Ev.congr (fun k => if_pos (by omega)) (Ev.congr (fun k => if_pos (by omega)) (Ev.congr (fun k => if_pos trivial) ?_)))
      rw [wS (n := i) (by omega)]
      exact ih (i + 1) (by omega)
  unfold laws_likeInts.f
  exact Ev.congr (fun k => if_pos rfl) (key l.length 0 (by omega))
end Go.Proofs.YtcnekpdoldljgaaGreat.Pure
end
section
namespace Go.Proofs.YtcnekpdoldljgaaGreat.Pure
open Go.RowKit Go.Proofs.YtcnekpdoldljgaaGreat.F Go.Proofs.YtcnekpdoldljgaaGreatW.PrintWords Go.Proofs.YtcnekpdoldljgaaGreatW.PrintLast
theorem cross_symm {w : List Int} (hw : Word w) {i k : Nat} (hi : i < w.length / 2) (hk : k < w.length / 2) : crossB w i k = crossB w k i := by
  by_cases e : i = k
  · rw [e]
  · have h1 := places_ne hw e hi hk
    have h2 := places_lt (hw.count hi)
    have h3 := places_lt (hw.count hk)
    unfold crossB
    rw [show (i == k) = false from by simpa using e, show (k == i) = false from by simpa using Ne.symm e]
    generalize pA w i = a at *
    generalize pB w i = b at *
    generalize pA w k = c at *
    generalize pB w k = d at *
    have e2 : ∀ (A B : Prop) [Decidable A] [Decidable B], (decide A != decide B) = decide (¬ (A ↔ B)) := by
      intro A B _ _
      by_cases x : A <;> by_cases y : B <;> simp [x, y]
    simp only [← Bool.decide_and, e2]
    congr 1
    rw [decide_eq_decide]
    omega
end Go.Proofs.YtcnekpdoldljgaaGreat.Pure
end
section
namespace Go.Proofs.YtcnekpdoldljgaaGreat.Chrom
def sumR (f : Nat → Int) : Nat → Int
  | 0 => 0
  | n + 1 => sumR f n + f n
def at_ (c : List Nat) (v : Nat) : Nat := c.getD v 0
def okc (X : Nat → Nat → Bool) (c : List Nat) (x : Nat) : Bool := (List.range c.length).all fun v => !(X c.length v) || !(at_ c v == x)
def ext (X : Nat → Nat → Bool) (k : Nat) : Nat → List Nat → Int
  | 0, _ => 1
  | d + 1, c => sumR (fun x => if okc X c x = true then ext X k d (c ++ [x]) else 0) k
def Good (X : Nat → Nat → Bool) (m : Nat) (c : List Nat) : Prop := ∀ i, i < m → ∀ v, v < i → X i v = true → at_ c i ≠ at_ c v
def fall (k : Int) : Nat → Int
  | 0 => 1
  | j + 1 => fall k j * (k - j)
def ev (k : Int) (out : List Int) : Int := sumR (fun j => out.getD j 0 * fall k j) out.length
def pv (x : Int) : List Int → Int
  | [] => 0
  | a :: l => a + x * pv x l
end Go.Proofs.YtcnekpdoldljgaaGreat.Chrom
end
section
namespace Go.Proofs.YtcnekpdoldljgaaGreat.Pure
open Go.RowKit Go.Proofs.YtcnekpdoldljgaaGreat.F Go.Proofs.YtcnekpdoldljgaaGreat.Mem Go.Proofs.YtcnekpdoldljgaaGreat.Chrom Go.Proofs.YtcnekpdoldljgaaGreatW.PrintWords Go.Proofs.YtcnekpdoldljgaaGreatW.PrintLast
theorem wrap_add (a b : Int) : wrap64 (wrap64 a + b) = wrap64 (a + b) := by unfold wrap64; omega
theorem wrap_mul (a x : Int) : wrap64 (wrap64 a * x) = wrap64 (a * x) := by
  have h : wrap64 a = a - 18446744073709551616 * ((a + 9223372036854775808) / 18446744073709551616) := by unfold wrap64; omega
  rw [h]
  generalize (a + 9223372036854775808) / 18446744073709551616 = q
  rw [Int.sub_mul, Int.mul_assoc]
  generalize q * x = z
  generalize a * x = y
  unfold wrap64; omega
theorem val_wrap (x : Int) (p : List Int) : ∀ d, d ≤ p.length → valS x (backTo p d) = wrap64 (pv x (p.drop (p.length - d)))
  | 0, _ => by
    rw [show p.length - 0 = p.length from rfl, List.drop_length, pv]
    show (0 : Int) = wrap64 0
    unfold wrap64; decide
  | d + 1, hd => by
    have ih := val_wrap x p d (by omega)
    rw [backTo, valS_snoc, ih, show p.length - 1 - d = p.length - (d + 1) from by omega]
    have e : p.drop (p.length - (d + 1)) = p.getD (p.length - (d + 1)) 0 :: p.drop (p.length - d) := by
      rw [List.drop_eq_getElem_cons (by omega), List.getD_eq_getElem?_getD, List.getElem?_eq_getElem (by omega), show p.length - (d + 1) + 1 = p.length - d from by omega]; rfl
    rw [e, pv]
    dsimp only
    rw [wrap_mul, wrap_add, Int.mul_comm x, Int.add_comm]
theorem value_pv (x : Int) (p : List Int) : valS x (backTo p p.length) = wrap64 (pv x p) := by
  rw [val_wrap x p p.length (Nat.le_refl _), Nat.sub_self, List.drop_zero]
theorem value_ev (l : List Int) (x : Int) (hl : l.length ≤ 1048576) : Ev (fun k => spec_l10Value.f k l x) (valS x (backTo l l.length)) := by
  have key : ∀ k' d, d + k' = l.length → Ev (fun k => spec_l10Value.l0 k l x (valS x (backTo l d)) ((k' : Int) - 1)) (valS x (backTo l l.length)) := by
    intro k'
    induction k' with
    | zero =>
      intro d hd
      obtain rfl : d = l.length := by omega
      refine Ev_succ ?_
      simp only [spec_l10Value.l0]
      exact Ev.congr (fun k => if_neg (by omega)) (Ev.now _)
    | succ k' ih =>
      intro d hd
      have e : (((k' + 1 : Nat) : Int) - 1) = (k' : Int) := by omega
      rw [e]
      refine Ev_succ ?_
      simp only [spec_l10Value.l0]
      refine Ev.congr (fun k => if_pos (by omega)) (Ev.congr (fun k => if_pos (by omega)) (Ev.congr (fun k => if_pos (by omega)) ?_))
      have h := ih (d + 1) (by omega)
      rw [backTo, valS_snoc, show l.length - 1 - d = k' from by omega] at h
      rw [rdN, show wrap64 ((k' : Int) - 1) = (k' : Int) - 1 from by unfold wrap64; omega]
      exact h
  unfold spec_l10Value.f
  rw [show wrap64 ((l.length : Int) - 1) = (l.length : Int) - 1 from by unfold wrap64; omega]
  exact key l.length 0 (by omega)
end Go.Proofs.YtcnekpdoldljgaaGreat.Pure
end
section
namespace Go.Proofs.YtcnekpdoldljgaaGreat.Pure
open Go.RowKit Go.Proofs.YtcnekpdoldljgaaGreat.F Go.Proofs.YtcnekpdoldljgaaGreat.Mem Go.Proofs.YtcnekpdoldljgaaGreatW.PrintWords Go.Proofs.YtcnekpdoldljgaaGreatW.PrintLast
set_option linter.unusedVariables false
set_option linter.unusedSimpArgs false
def intV (w : List Int) : List Int × Int := if isW w = true then (interlaceV w, 0) else ([], 1)
theorem interlaceV_le (w : List Int) (h : isW w = true) : (interlaceV w).length ≤ 1048576 := by
  have := ((isW_iff w).1 h).le
  unfold interlaceV; rw [polyTo_len]; omega
theorem implInt_ev (w : List Int) (hwf : ∀ x ∈ w, (Lit.int .i64 x).wf = true) : Ev (fun k => impl_InterlacePolynomial.f k w) (intV w) := by
  unfold impl_InterlacePolynomial.f intV
  refine Ev.bind (isWord_ev w hwf) ?_
  by_cases h : isW w = true
  · refine Ev.congr (fun k => if_pos h) ?_
    rw [if_pos h]
    rw [show impl_interlace.f w = some (interlaceV w) from by unfold impl_interlace.f; rw [if_pos h]]
    exact Ev.now _
  · refine Ev.congr (fun k => if_neg h) ?_
    rw [if_neg h]
    exact Ev.now _
theorem intV_len (w : List Int) : (intV w).1.length ≤ 1048576 := by
  unfold intV
  by_cases h : isW w = true
  · rw [if_pos h]; exact interlaceV_le w h
  · rw [if_neg h]; simp
theorem specInterlace_f (w : List Int) (h : isW w = true) : spec_l10Interlace.f w = some (interlaceV w) := by unfold spec_l10Interlace.f; rw [if_pos h]
theorem specInt_ev (w : List Int) : Ev (fun k => spec_InterlacePolynomial.f k w) (intV w) := by
  unfold spec_InterlacePolynomial.f intV
  refine Ev.bind (code10_ev w [] (by simp)) ?_
  by_cases h : isW w = true
  · rw [if_pos h, if_pos h, if_pos (by simp)]
    refine Ev.congr (f := fun _ => some (interlaceV w, 0)) (fun k => ?_) (Ev.now _)
    (try rw [if_pos rfl]); rw [specInterlace_f w h]
    rfl
  · rw [if_neg h, if_neg h]
    exact Ev.congr (f := fun _ => some ([], 1)) (fun k => by rw [if_neg (by decide)]) (Ev.now _)
def valV (l : List Int) (a : Int) : Int × Int := if isW l = true then (if decide (-100 ≤ a ∧ a ≤ 100) = true then (valS a (backTo (interlaceV l) (interlaceV l).length), 0) else (0, 2)) else (0, 1)
theorem specValI_ev (l : List Int) (a : Int) : Ev (fun k => spec_ValueOfInterlace.f k l a) (valV l a) := by
  unfold spec_ValueOfInterlace.f valV
  refine Ev.bind (is_ev l) ?_
  by_cases h : isW l = true
  · rw [if_pos h]
    refine Ev.congr (fun k => if_pos h) ?_
    simp only [spec_in_f, Option.bind_some]
    by_cases g : decide (-100 ≤ a ∧ a ≤ 100) = true
    · rw [if_pos g]
      refine Ev.congr (fun k => if_pos g) ?_
      rw [specInterlace_f l h]
      exact Ev.bind (Ev.now _) (Ev.bind (value_ev (interlaceV l) a (interlaceV_le l h)) (Ev.now _))
    · rw [if_neg g]
      exact Ev.congr (fun k => if_neg g) (Ev.now _)
  · rw [if_neg h]
    exact Ev.congr (fun k => if_neg h) (Ev.now _)
theorem implValI_ev (l : List Int) (a : Int) (hw : ∀ x ∈ l, (Lit.int .i64 x).wf = true) : Ev (fun k => impl_ValueOfInterlace.f k l a) (valV l a) := by
  unfold impl_ValueOfInterlace.f valV
  refine Ev.bind (isWord_ev l hw) ?_
  by_cases h : isW l = true
  · refine Ev.congr (fun k => if_pos h) ?_
    rw [if_pos h]
    simp only [in_f, Option.bind_some]
    by_cases g : decide (-100 ≤ a ∧ a ≤ 100) = true
    · refine Ev.congr (fun k => if_pos g) ?_
      rw [if_pos g]
      rw [show impl_interlace.f l = some (interlaceV l) from by unfold impl_interlace.f; rw [if_pos h]]
      have := interlaceV_le l h
      rw [Option.bind_some, show impl_valueAt.f (interlaceV l) a = some (valS a (backTo (interlaceV l) (interlaceV l).length)) from by unfold impl_valueAt.f; rw [if_pos (by omega)]]
      exact Ev.now _
    · refine Ev.congr (fun k => if_neg g) ?_
      rw [if_neg g]
      exact Ev.now _
  · refine Ev.congr (fun k => if_neg h) ?_
    rw [if_neg h]
    exact Ev.now _
end Go.Proofs.YtcnekpdoldljgaaGreat.Pure
end
section
namespace Go.Proofs.YtcnekpdoldljgaaGreat.Pure
open Go.RowKit Go.Proofs.YtcnekpdoldljgaaGreat.F Go.Proofs.YtcnekpdoldljgaaGreat.Mem Go.Proofs.YtcnekpdoldljgaaGreat.Chrom Go.Proofs.YtcnekpdoldljgaaGreat.Red Go.Proofs.YtcnekpdoldljgaaGreatW.PrintWords Go.Proofs.YtcnekpdoldljgaaGreatW.PrintLast
theorem pv_rep (x : Int) : ∀ n, pv x (List.replicate n 0) = 0
  | 0 => rfl
  | n + 1 => by rw [List.replicate_succ, pv, pv_rep x n, Int.mul_zero]; rfl
theorem addTo_cons (a b : Int) (old f : List Int) (j : Nat) : addTo (a :: old) (b :: f) (j + 1) = (a + b) :: addTo old f j := by
  unfold addTo
  rw [List.length_cons, List.range_succ_eq_map, List.map_cons, List.map_map]
  congr 1
  refine List.map_congr_left (fun i _ => ?_)
  simp only [Function.comp]
  by_cases h : i < j
  · rw [if_pos (by omega), if_pos h]; rfl
  · rw [if_neg (by omega), if_neg h]; rfl
theorem pv_addTo (x : Int) : ∀ (f old : List Int), f.length ≤ old.length → pv x (addTo old f f.length) = pv x old + pv x f
  | [], old, _ => by rw [List.length_nil, addTo_zero, pv, Int.add_zero]
  | b :: f, [], h => by simp at h
  | b :: f, a :: old, h => by
    rw [List.length_cons, addTo_cons, pv, pv, pv, pv_addTo x f old (by simpa using h), Int.mul_add]
    omega
theorem pv_powC : ∀ m, m ≤ 6 → pv 2 (powC m) = 1 := by
  intro m hm
  have : m = 0 ∨ m = 1 ∨ m = 2 ∨ m = 3 ∨ m = 4 ∨ m = 5 ∨ m = 6 := by omega
  rcases this with rfl | rfl | rfl | rfl | rfl | rfl | rfl <;> decide
theorem pv_polyTo (l0 : List Int) (n : Nat) (hn : n ≤ 6) (hc : ∀ s, coOf l0 s n ≤ n) : ∀ s : Nat, pv 2 (polyTo l0 n s) = (s : Int)
  | 0 => pv_rep _ _
  | s + 1 => by
    have h1 := pv_addTo 2 (powC (coOf l0 s n)) (polyTo l0 n s) (by rw [powC_len, polyTo_len]; have := hc s; omega)
    rw [powC_len, pv_powC _ (by have := hc s; omega), pv_polyTo l0 n hn hc s] at h1
    rw [polyTo, h1]; omega
theorem inter_two {l0 : List Int} (hw : Word l0) : valS 2 (backTo (interlaceV l0) (interlaceV l0).length) = ((2 ^ (l0.length / 2) : Nat) : Int) := by
  have hle := hw.le
  have h2 : 2 ^ (l0.length / 2) ≤ 64 := Nat.le_trans (Nat.pow_le_pow_right (by decide) (show l0.length / 2 ≤ 6 by omega)) (by decide)
  rw [value_pv]
  unfold interlaceV
  rw [pv_polyTo l0 _ (by omega) (fun s => (co_ok hw rfl s).2.1)]
  generalize 2 ^ (l0.length / 2) = m at *
  unfold wrap64; omega
end Go.Proofs.YtcnekpdoldljgaaGreat.Pure
end
section
namespace Go.Proofs.YtcnekpdoldljgaaGreat.Pure
open Go.RowKit Go.Proofs.YtcnekpdoldljgaaGreat.F Go.Proofs.YtcnekpdoldljgaaGreat.Mem Go.Proofs.YtcnekpdoldljgaaGreatW.PrintWords Go.Proofs.YtcnekpdoldljgaaGreatW.PrintLast
set_option linter.unusedVariables false
set_option linter.unusedSimpArgs false
theorem rd_rowsS {w : List Int} {i : Nat} (hi : i < w.length / 2) : rd_L1 (rowsOf w) (i : Int) = rowTo w i (w.length / 2) := by
  unfold rd_L1; rw [Int.toNat_natCast]; exact rowsOf_get hi
theorem okTo_app (X : Nat → Nat → Bool) (c : Bool) (l t : List Nat) : ∀ m, m ≤ l.length → okTo X c (l ++ t) m = okTo X c l m
  | 0, _ => rfl
  | m + 1, h => by
    rw [okTo, okTo, okTo_app X c l t m (by omega), List.take_append_of_le_length (by omega), List.getD_eq_getElem?_getD, List.getElem?_append_left (by omega), ← List.getD_eq_getElem?_getD]
theorem okTo_snoc (X : Nat → Nat → Bool) (c : Bool) (l : List Nat) (i : Nat) : okTo X c (l ++ [i]) (l ++ [i]).length = (okTo X c l l.length && !(l.any fun b => X i b != c)) := by
  rw [List.length_append, List.length_singleton, okTo, okTo_app X c l [i] _ (Nat.le_refl _), List.take_left]
  congr 3
  rw [List.getD_eq_getElem?_getD, List.getElem?_append_right (Nat.le_refl _), Nat.sub_self]; rfl
def okS (X : Nat → Nat → Bool) (c : Bool) (s i : Nat) : Bool := okTo X c (setTo s i) (setTo s i).length
theorem okS_succ (X : Nat → Nat → Bool) (c : Bool) (s i : Nat) : okS X c s (i + 1) = if s.testBit i = true then (okS X c s i && !((setTo s i).any fun b => X i b != c)) else okS X c s i := by
  unfold okS
  rw [setTo_succ]
  split
  · exact okTo_snoc X c _ i
  · rfl
theorem ent_is (w : List Int) (c : Bool) (i k : Nat) : (ent w i k == (if c = true then 1 else 0)) = (crossB w i k == c) := by
  unfold ent
  cases crossB w i k <;> cases c <;> rfl
theorem sets_l2 (w : List Int) (hw : Word w) (n : Nat) (hn : n = w.length / 2) (c : Bool) (out : List Int) (s : Nat) (hs : s < 64) (cnt : Nat) (i : Nat) (hi : i < n) (r : List Int)
    (hr : Ev (fun k => spec_l10Sets.l1 k (if c = true then 1 else 0) (n : Int) (rowsOf w) out (s : Int) (okS (crossB w) c s i && !((setTo s i).any fun b => crossB w i b != c)) (cnt : Int) ((i + 1 : Nat) : Int)) r) :
    Ev (fun k => spec_l10Sets.l2 k (if c = true then 1 else 0) (n : Int) (rowsOf w) out (s : Int) (okS (crossB w) c s i) (cnt : Int) (i : Int) 0) r := by
  have hle := hw.le
  have hl : (rowsOf w).length = n := by rw [hn]; exact rowsTo_len w _
  have key : ∀ q k, k + q = i → Ev (fun m => spec_l10Sets.l2 m (if c = true then 1 else 0) (n : Int) (rowsOf w) out (s : Int) (okS (crossB w) c s i && !((setTo s k).any fun b => crossB w i b != c)) (cnt : Int) (i : Int) (k : Int)) r := by
    intro q
    induction q with
    | zero =>
      intro k hk
      obtain rfl : k = i := by omega
      refine Ev_succ ?_
      simp only [spec_l10Sets.l2]
      refine Ev.congr (fun m => if_neg (by omega)) ?_
      rw [wS (by omega)]
      exact hr
    | succ q ihq =>
      intro k hk
      have hh := ihq (k + 1) (by omega)
      rw [setTo_succ] at hh
      refine Ev_succ ?_
      simp only [spec_l10Sets.l2]
      refine Ev.congr (fun m => if_pos (by omega)) ?_
      rw [u64_nat k (by omega), bit_at s k (by omega) (by omega), rd_rowsS (show i < _ by omega), rowTo_len, rdN, rowTo_get (by omega), ent_is, wS (by omega)]
      by_cases hb : s.testBit k = true
      · rw [if_pos hb, List.any_append] at hh
        by_cases hx : (okS (crossB w) c s i && !((setTo s k).any fun b => crossB w i b != c)) = true
        · have hx2 := (Bool.and_eq_true_iff.1 hx)
          have hx3 : ((setTo s k).any fun b => crossB w i b != c) = false := by simpa using hx2.2
          rw [hx2.1, hx3, Bool.true_and, Bool.false_or] at hh
          refine Ev.congr (fun m => if_pos hx) (Ev.congr (fun m => if_pos (by omega)) (Ev.congr (fun m => if_neg (by rw [if_pos hb]; decide)) ?_))
          refine Ev.congr (fun m => if_pos (by omega)) (Ev.congr (fun m => if_pos (by omega)) (Ev.congr (fun m => if_pos (by omega)) (Ev.congr (fun m => if_pos (by omega)) ?_)))
          rw [show (crossB w i k == c) = !([k].any fun b => crossB w i b != c) from by simp only [List.any_cons, List.any_nil, Bool.or_false]; cases crossB w i k <;> cases c <;> rfl]
          exact hh
        · rw [show (okS (crossB w) c s i && !(((setTo s k).any fun b => crossB w i b != c) || [k].any fun b => crossB w i b != c)) = false from by
            cases h1 : okS (crossB w) c s i <;> cases h2 : ((setTo s k).any fun b => crossB w i b != c) <;> simp [h1, h2] at hx ⊢] at hh
          exact Ev.congr (fun m => if_neg hx) hh
      · rw [if_neg hb] at hh
        by_cases hx : (okS (crossB w) c s i && !((setTo s k).any fun b => crossB w i b != c)) = true
        · rw [hx] at hh
          exact Ev.congr (fun m => if_pos hx) (Ev.congr (fun m => if_pos (by omega)) (Ev.congr (fun m => if_pos (by rw [if_neg hb])) hh))
        · rw [show (okS (crossB w) c s i && !((setTo s k).any fun b => crossB w i b != c)) = false from by simpa using hx] at hh
          exact Ev.congr (fun m => if_neg hx) hh
  have := key i 0 (by omega)
  rw [show setTo s 0 = [] from rfl, List.any_nil, Bool.not_false, Bool.and_true] at this
  exact this
theorem sets_l1 (w : List Int) (hw : Word w) (n : Nat) (hn : n = w.length / 2) (c : Bool) (out : List Int) (ho : out.length = n + 1) (s : Nat) (hs : s < 64) (r : List Int)
    (hr : Ev (fun k => spec_l10Sets.l0 k (if c = true then 1 else 0) (n : Int) (rowsOf w) (bump (crossB w) c (setTo s n) out) ((s + 1 : Nat) : Int)) r) :
    Ev (fun k => spec_l10Sets.l1 k (if c = true then 1 else 0) (n : Int) (rowsOf w) out (s : Int) true 0 0) r := by
  have hle := hw.le
  have key : ∀ q i, i + q = n → Ev (fun m => spec_l10Sets.l1 m (if c = true then 1 else 0) (n : Int) (rowsOf w) out (s : Int) (okS (crossB w) c s i) ((setTo s i).length : Int) (i : Int)) r := by
    intro q
    induction q with
    | zero =>
      intro i hi
      obtain rfl : i = n := by omega
      have hsl := setTo_le s i
      refine Ev_succ ?_
      simp only [spec_l10Sets.l1]
      refine Ev.congr (fun m => if_neg (by omega)) ?_
      unfold bump at hr
      rw [wS (by omega)]
      by_cases hx : okS (crossB w) c s i = true
      · rw [if_pos (show okTo (crossB w) c (setTo s i) (setTo s i).length = true from hx)] at hr
        refine Ev.congr (fun m => if_pos hx) (Ev.congr (fun m => if_pos (by omega)) (Ev.congr (fun m => if_pos (by omega)) ?_))
        rw [rdN, Int.toNat_natCast]
        exact hr
      · rw [if_neg (show ¬ okTo (crossB w) c (setTo s i) (setTo s i).length = true from hx)] at hr
        exact Ev.congr (fun m => if_neg hx) hr
    | succ q ihq =>
      intro i hi
      have hh := ihq (i + 1) (by omega)
      have hsl := setTo_le s i
      rw [okS_succ, setTo_succ] at hh
      refine Ev_succ ?_
      simp only [spec_l10Sets.l1]
      refine Ev.congr (fun m => if_pos (by omega)) ?_
      rw [u64_nat i (by omega), bit_at s i (by omega) (by omega), wS (by omega), wS (by omega)]
      refine Ev.congr (fun m => if_pos (by omega)) ?_
      by_cases hb : s.testBit i = true
      · rw [if_pos hb, if_pos hb, List.length_append, List.length_singleton] at hh
        refine Ev.congr (fun m => if_neg (by rw [if_pos hb]; decide)) ?_
        exact sets_l2 w hw n hn c out s hs _ i (by omega) r hh
      · rw [if_neg hb, if_neg hb] at hh
        exact Ev.congr (fun m => if_pos (by rw [if_neg hb])) hh
  exact key n 0 (by omega)
theorem ssets_ev (w : List Int) (hw : Word w) (c : Bool) : Ev (fun k => spec_l10Sets.f k w (if c = true then 1 else 0)) (setsV w c) := by
  have hle := hw.le
  obtain ⟨n, hn⟩ : ∃ n, n = w.length / 2 := ⟨_, rfl⟩
  have hn6 : n ≤ 6 := by omega
  have hN : 2 ^ n ≤ 64 := Nat.le_trans (Nat.pow_le_pow_right (by decide) hn6) (by decide)
  unfold spec_l10Sets.f setsV
  refine Ev.bind (srows_ev w hw) ?_
  have e1 : wrap64 ((w.length : Int) / 2) = (n : Int) := by unfold wrap64; omega
  have e2 : wrap64 ((n : Int) + 1) = ((n + 1 : Nat) : Int) := wS (by omega)
  rw [e1, e2, Int.toNat_natCast, ← hn]
  refine Ev.congr (fun k => if_pos (by omega)) (Ev.congr (fun k => if_pos (by omega)) ?_)
  have key : ∀ q s, s + q = 2 ^ n → Ev (fun k => spec_l10Sets.l0 k (if c = true then 1 else 0) (n : Int) (rowsOf w) (numsTo (crossB w) c n s) (s : Int)) (numsTo (crossB w) c n (2 ^ n)) := by
    intro q
    induction q with
    | zero =>
      intro s hs
      obtain rfl : s = 2 ^ n := by omega
      refine Ev_succ ?_
      simp only [spec_l10Sets.l0]
      rw [u64_nat n (by omega), shl_nat n (by omega)]
      exact Ev.congr (fun k => if_pos (by omega)) (Ev.congr (fun k => if_neg (by omega)) (Ev.now _))
    | succ q ihq =>
      intro s hs
      have hh := ihq (s + 1) (by omega)
      refine Ev_succ ?_
      simp only [spec_l10Sets.l0]
      rw [u64_nat n (by omega), shl_nat n (by omega)]
      refine Ev.congr (fun k => if_pos (by omega)) (Ev.congr (fun k => if_pos (by omega)) ?_)
      exact sets_l1 w hw n hn c _ (numsTo_len _ _ _ _) s (by omega) _ hh
  exact key (2 ^ n) 0 (by omega)
def setsB (c : Bool) (w : List Int) : List Int × Int := if isW w = true then (setsV w c, 0) else ([], 1)
theorem setsB_len (c : Bool) (w : List Int) : (setsB c w).1.length ≤ 1048576 := by
  unfold setsB
  split
  · rename_i h
    have := ((isW_iff w).1 h).le
    unfold setsV
    show (numsTo (crossB w) c (w.length / 2) _).length ≤ _
    rw [numsTo_len]; omega
  · simp
end Go.Proofs.YtcnekpdoldljgaaGreat.Pure
end
section
namespace Go.Proofs.YtcnekpdoldljgaaGreat.Pure
open Go.RowKit Go.Proofs.YtcnekpdoldljgaaGreat.F Go.Proofs.YtcnekpdoldljgaaGreatW.PrintWords Go.Proofs.YtcnekpdoldljgaaGreatW.PrintLast
def setsB_false (w : List Int) : List Int × Int := setsB false w
theorem setsB_false_len (w : List Int) : (setsB_false w).1.length ≤ 1048576 := setsB_len false w
theorem specInd_ev (w : List Int) : Ev (fun k => spec_IndependentNumbers.f k w) (setsB_false w) := by
  unfold spec_IndependentNumbers.f setsB_false setsB
  refine Ev.bind (code10_ev w [] (by simp)) ?_
  by_cases h : isW w = true
  · rw [if_pos h, if_pos h, if_pos (by simp)]
    refine Ev.congr (fun k => if_pos rfl) ?_
    exact Ev.bind (ssets_ev w ((isW_iff w).1 h) false) (Ev.now _)
  · rw [if_neg h, if_neg h]
    exact Ev.congr (fun k => if_neg (by decide)) (Ev.now _)
theorem implInd_ev (w : List Int) (hwf : ∀ x ∈ w, (Lit.int .i64 x).wf = true) : Ev (fun k => impl_IndependentNumbers.f k w) (setsB_false w) := by
  unfold impl_IndependentNumbers.f setsB_false setsB
  refine Ev.bind (isWord_ev w hwf) ?_
  by_cases h : isW w = true
  · rw [if_pos h, if_pos h]
    exact Ev.congr (fun k => by unfold impl_IndependentNumbers_1.f impl_setNumbers.f; rw [if_pos h]; rfl) (Ev.now _)
  · rw [if_neg h, if_neg h]
    exact Ev.now _
end Go.Proofs.YtcnekpdoldljgaaGreat.Pure
end
section
namespace Go.Proofs.YtcnekpdoldljgaaGreat.Pure
open Go.RowKit Go.Proofs.YtcnekpdoldljgaaGreat.F Go.Proofs.YtcnekpdoldljgaaGreatW.PrintWords Go.Proofs.YtcnekpdoldljgaaGreatW.PrintLast
def setsB_true (w : List Int) : List Int × Int := setsB true w
theorem setsB_true_len (w : List Int) : (setsB_true w).1.length ≤ 1048576 := setsB_len true w
theorem specCli_ev (w : List Int) : Ev (fun k => spec_CliqueNumbers.f k w) (setsB_true w) := by
  unfold spec_CliqueNumbers.f setsB_true setsB
  refine Ev.bind (code10_ev w [] (by simp)) ?_
  by_cases h : isW w = true
  · rw [if_pos h, if_pos h, if_pos (by simp)]
    refine Ev.congr (fun k => if_pos rfl) ?_
    exact Ev.bind (ssets_ev w ((isW_iff w).1 h) true) (Ev.now _)
  · rw [if_neg h, if_neg h]
    exact Ev.congr (fun k => if_neg (by decide)) (Ev.now _)
theorem implCli_ev (w : List Int) (hwf : ∀ x ∈ w, (Lit.int .i64 x).wf = true) : Ev (fun k => impl_CliqueNumbers.f k w) (setsB_true w) := by
  unfold impl_CliqueNumbers.f setsB_true setsB
  refine Ev.bind (isWord_ev w hwf) ?_
  by_cases h : isW w = true
  · rw [if_pos h, if_pos h]
    exact Ev.congr (fun k => by unfold impl_CliqueNumbers_1.f impl_setNumbers.f; rw [if_pos h]; rfl) (Ev.now _)
  · rw [if_neg h, if_neg h]
    exact Ev.now _
end Go.Proofs.YtcnekpdoldljgaaGreat.Pure
end
section
namespace Go.Proofs.YtcnekpdoldljgaaGreat.Pure
open Go.RowKit Go.Proofs.YtcnekpdoldljgaaGreat.F Go.Proofs.YtcnekpdoldljgaaGreatW.PrintWords Go.Proofs.YtcnekpdoldljgaaGreatW.PrintLast
theorem Ev_pred {α : Type} {g f : Nat → Option α} {r : α} (h : ∀ k, g (k + 1) = f k) (e : Ev g r) : Ev f r := by
  obtain ⟨K, hK⟩ := e
  exact ⟨K, fun k hk => by rw [← h]; exact hK _ (by omega)⟩
theorem rd_rows {w : List Int} {i : Nat} (hi : i < w.length / 2) : rd_L1 (rowsOf w) (i : Int) = rowTo w i (w.length / 2) := by
  unfold rd_L1; rw [Int.toNat_natCast]; exact rowsOf_get hi
structure Taken (n v : Nat) (used : List Int) (t c : Nat) : Prop where
  lt : t < 2 ^ n
  len : used.length = 2 * c
  bit : ∀ j, v ≤ j → j < n → used.contains (j : Int) = t.testBit j
  nod : used.Nodup
  mem : ∀ x ∈ used, 0 ≤ x ∧ x < (n : Int)
theorem Taken.next {n v : Nat} {used : List Int} {t c : Nat} (h : Taken n v used t c) : Taken n (v + 1) used t c := ⟨h.lt, h.len, fun j hj hn => h.bit j (by omega) hn, h.nod, h.mem⟩
theorem Taken.add {n v k : Nat} {used : List Int} {t c : Nat} (h : Taken n v used t c) (hvk : v < k) (hk : k < n) (h1 : t.testBit v = false) (h2 : t.testBit k = false) : Taken n (v + 1) (used ++ [(v : Int), (k : Int)]) (t ||| 2 ^ k) (c + 1) := by
  have c1 : used.contains (v : Int) = false := by rw [h.bit v (by omega) (by omega), h1]
  have c2 : used.contains (k : Int) = false := by rw [h.bit k (by omega) hk, h2]
  refine ⟨Nat.or_lt_two_pow h.lt (Nat.pow_lt_pow_right (by decide) hk), by rw [List.length_append, h.len]; simp; omega, fun j hj hn => ?_, used_app h.nod c1 c2 (by omega), mem_app h.mem (by omega) hk⟩
  rw [Nat.testBit_or, Nat.testBit_two_pow, ← h.bit j (by omega) hn]
  rw [Bool.eq_iff_iff]
  simp only [List.contains_iff_mem, List.mem_append, List.mem_cons, Bool.or_eq_true, decide_eq_true_eq, List.not_mem_nil, or_false]
  constructor
  · rintro (g | g | g)
    · exact .inl g
    · omega
    · exact .inr (by omega)
  · rintro (g | g)
    · exact .inl g
    · exact .inr (.inr (by omega))
theorem matchW_skip (X : Nat → Nat → Bool) (d i : Nat) (used out : List Int) (h : used.contains (i : Int) = true) : matchW X (d + 1) i used out = matchW X d (i + 1) used out := by
  rw [matchW]
  generalize matchW X d (i + 1) used out = o
  suffices g : ∀ l : List Nat, l.foldl (fun o j => if !used.contains (i : Int) && !used.contains ((i + 1 + j : Nat) : Int) && X i (i + 1 + j) then matchW X d (i + 1) (used ++ [(i : Int), ((i + 1 + j : Nat) : Int)]) o else o) o = o from g _
  intro l
  induction l with
  | nil => rfl
  | cons a l ih =>
    rw [List.foldl_cons, if_neg (by rw [h]; simp)]
    exact ih
theorem smatch_ev (w : List Int) (hw : Word w) (n : Nat) (hn : n = w.length / 2) : ∀ (d v : Nat) (used : List Int) (t c : Nat) (out : List Int), v + d = n → Taken n v used t c → out.length = n / 2 + 1 →
    Ev (fun k => spec_l10Match.f k (rowsOf w) (v : Int) (t : Int) (c : Int) out) (matchW (crossB w) d v used out) := by
  have hle := hw.le
  have hl : (rowsOf w).length = n := by rw [hn]; exact rowsTo_len w _
  intro d
  induction d with
  | zero =>
    intro v used t c out hv T ho
    have h1 := used_len T.nod T.mem
    have h2 := T.len
    refine Ev_succ (Ev_succ (Ev_succ ?_))
    simp only [spec_l10Match.f, spec_l10Match.l0]
    refine Ev.congr (fun k => if_neg (by omega)) ?_
    simp only [spec_l10Match.j1]
    refine Ev.congr (fun k => if_pos (by omega)) ?_
    refine Ev.congr (fun k => if_pos (by omega)) ?_
    refine Ev.congr (fun k => if_pos (by omega)) ?_
    rw [matchW, show used.length / 2 = c from by omega, rdN, Int.toNat_natCast]
    exact Ev.now _
  | succ d ih =>
    intro v used t c out hv T ho
    have h1 := used_len T.nod T.mem
    have h2 := T.len
    have ht62 : t < 2 ^ 62 := Nat.lt_of_lt_of_le T.lt (Nat.pow_le_pow_right (by decide) (by omega))
    have hvb := T.bit v (Nat.le_refl _) (by omega)
    have hbit := bit_at t v ht62 (by omega)
    refine Ev_succ (Ev_succ ?_)
    simp only [spec_l10Match.f, spec_l10Match.l0]
    refine Ev.congr (fun k => if_pos (by omega)) ?_
    rw [u64_nat v (by omega)]
    refine Ev.congr (fun k => if_pos (by omega)) ?_
    rw [hbit]
    by_cases hb : t.testBit v = true
    · rw [if_pos hb]
      refine Ev.congr (fun k => if_pos rfl) ?_
      rw [wS (by omega), matchW_skip _ _ _ _ _ (by rw [hvb, hb])]
      exact Ev_pred (g := fun k => spec_l10Match.f k (rowsOf w) ((v + 1 : Nat) : Int) (t : Int) (c : Int) out) (fun k => by simp only [spec_l10Match.f]) (ih (v + 1) used t c out (by omega) T.next ho)
    · rw [if_neg hb]
      have hb' : t.testBit v = false := by simpa using hb
      refine Ev.congr (fun k => if_neg (by decide)) ?_
      refine Ev_succ ?_
      simp only [spec_l10Match.j1]
      refine Ev.congr (fun k => if_neg (by omega)) ?_
      rw [wS (by omega)]
      refine Ev.bind (ih (v + 1) used t c out (by omega) T.next ho) ?_
      show Ev _ (matchTo (crossB w) d v used out d)
      have key : ∀ q j, j + q = d → Ev (fun k => spec_l10Match.l1 k (rowsOf w) (v : Int) (t : Int) (c : Int) (matchTo (crossB w) d v used out j) ((v + 1 + j : Nat) : Int)) (matchTo (crossB w) d v used out d) := by
        intro q
        induction q with
        | zero =>
          intro j hj
          refine Ev_succ ?_
          simp only [spec_l10Match.l1]
          refine Ev.congr (fun k => if_neg (by omega)) ?_
          rw [show j = d from by omega]
          exact Ev.now _
        | succ q ihq =>
          intro j hj
          have hh := ihq (j + 1) (by omega)
          refine Ev_succ ?_
          simp only [spec_l10Match.l1]
          refine Ev.congr (fun k => if_pos (by omega)) ?_
          refine Ev.congr (fun k => if_pos (by omega)) ?_
          refine Ev.congr (fun k => if_pos (by omega)) ?_
          refine Ev.congr (fun k => if_pos (by omega)) ?_
          rw [rd_rows (by omega), rdN, rowTo_get (by omega), wS (by omega)]
          refine Ev.congr (fun k => if_pos (by rw [rowTo_len]; omega)) ?_
          have hcb := T.bit (v + 1 + j) (by omega) (by omega)
          rw [matchTo_succ, hvb, hb', hcb] at hh
          rw [u64_nat (v + 1 + j) (by omega), bit_at t (v + 1 + j) ht62 (by omega)]
          by_cases hx : crossB w v (v + 1 + j) = true
          · refine Ev.congr (fun k => if_pos (by unfold ent; rw [if_pos hx])) ?_
            refine Ev.congr (fun k => if_pos (by omega)) ?_
            by_cases hk : t.testBit (v + 1 + j) = true
            · rw [if_pos hk]
              refine Ev.congr (fun k => if_neg (by decide)) ?_
              rw [hk, if_neg (by simp)] at hh
              rw [wS (by omega)]
              exact hh
            · have hk' : t.testBit (v + 1 + j) = false := by simpa using hk
              rw [if_neg hk]
              refine Ev.congr (fun k => if_pos rfl) ?_
              rw [hk', hx] at hh
              have hp : 2 ^ (v + 1 + j) < 2 ^ 62 := Nat.pow_lt_pow_right (by decide) (by omega)
              rw [wS (by omega), shl_nat (v + 1 + j) (by omega), or_nat _ _ ht62 hp, wS (by omega)]
              refine Ev.bind (ih (v + 1) _ _ _ _ (by omega) (T.add (k := v + 1 + j) (by omega) (by omega) hb' hk') (by rw [matchTo_len]; exact ho)) ?_
              exact hh
          · refine Ev.congr (fun k => if_neg (by unfold ent; rw [if_neg hx]; decide)) ?_
            rw [show crossB w v (v + 1 + j) = false from by simpa using hx, Bool.and_false, if_neg (by simp)] at hh
            rw [wS (by omega)]
            exact hh
      exact key d 0 (by omega)
def matV (w : List Int) : List Int × Int := if isW w = true then (matchV w, 0) else ([], 1)
theorem specMat_ev (w : List Int) : Ev (fun k => spec_MatchingNumbers.f k w) (matV w) := by
  unfold spec_MatchingNumbers.f matV
  refine Ev.bind (code10_ev w [] (by simp)) ?_
  by_cases h : isW w = true
  · rw [if_pos h, if_pos h, if_pos (by simp)]
    have hw := (isW_iff w).1 h
    have hle := hw.le
    refine Ev.congr (fun k => if_pos rfl) ?_
    have e : wrap64 (wrap64 ((w.length : Int) / 4) + 1) = ((w.length / 2 / 2 + 1 : Nat) : Int) := by unfold wrap64; omega
    rw [e]
    refine Ev.congr (fun k => if_pos (by omega)) ?_
    refine Ev.congr (fun k => if_pos (by omega)) ?_
    refine Ev.bind (srows_ev w hw) ?_
    refine Ev.bind (smatch_ev w hw _ rfl (w.length / 2) 0 [] 0 0 _ (by omega) ⟨Nat.two_pow_pos _, rfl, fun j _ _ => by simp, List.nodup_nil, by simp⟩ (by rw [List.length_replicate, Int.toNat_natCast])) ?_
    rw [Int.toNat_natCast]
    exact Ev.now _
  · rw [if_neg h, if_neg h]
    exact Ev.congr (fun k => if_neg (by decide)) (Ev.now _)
theorem implMat_ev (w : List Int) (hwf : ∀ x ∈ w, (Lit.int .i64 x).wf = true) : Ev (fun k => impl_MatchingNumbers.f k w) (matV w) := by
  unfold impl_MatchingNumbers.f matV
  refine Ev.bind (isWord_ev w hwf) ?_
  by_cases h : isW w = true
  · rw [if_pos h, if_pos h]
    exact Ev.congr (fun k => by unfold impl_matchings.f; rw [if_pos h]; rfl) (Ev.now _)
  · rw [if_neg h, if_neg h]
    exact Ev.now _
theorem matV_len (w : List Int) : (matV w).1.length ≤ 1048576 := by
  unfold matV
  split
  · rename_i h
    have := ((isW_iff w).1 h).le
    unfold matchV
    rw [matchW_len, List.length_replicate]; omega
  · simp
end Go.Proofs.YtcnekpdoldljgaaGreat.Pure
end
section
namespace Go.Proofs.YtcnekpdoldljgaaGreat.Pure
open Go.RowKit Go.Proofs.YtcnekpdoldljgaaGreat.F Go.Proofs.YtcnekpdoldljgaaGreat.Mem Go.Proofs.YtcnekpdoldljgaaGreatW.PrintWords Go.Proofs.YtcnekpdoldljgaaGreatW.PrintLast
theorem wrap_more (z : Int) (a : Int) : wrap64 (wrap64 z + a) = wrap64 (z + a) := by unfold wrap64; omega
def prs (X : Nat → Nat → Bool) : Nat → Nat → Nat
  | 0, _ => 0
  | d + 1, i => prs X d (i + 1) + (List.range d).countP fun k => X i (i + 1 + k)
theorem match_low (X : Nat → Nat → Bool) : ∀ (d i : Nat) (used out : List Int) (j : Nat), j < used.length / 2 → (matchW X d i used out).getD j 0 = out.getD j 0
  | 0, i, used, out, j, h => by
    rw [matchW, List.getD_eq_getElem?_getD, List.getElem?_set_ne (by omega), List.getD_eq_getElem?_getD]
  | d + 1, i, used, out, j, h => by
    have key : ∀ k, (matchTo X d i used out k).getD j 0 = out.getD j 0 := by
      intro k
      induction k with
      | zero => exact match_low X d (i + 1) used out j h
      | succ k ih =>
        rw [matchTo_succ]
        split
        · rw [match_low X d (i + 1) _ _ j (by rw [List.length_append]; show j < (used.length + 2) / 2; omega), ih]
        · exact ih
    exact key d
theorem match_none (X : Nat → Nat → Bool) : ∀ (d i : Nat) (used out : List Int) (z : Int), used.length / 2 < out.length → out.getD (used.length / 2) 0 = wrap64 z → (matchW X d i used out).getD (used.length / 2) 0 = wrap64 (z + 1)
  | 0, i, used, out, z, hl, hz => by
    rw [matchW, hz, wrap_more, List.getD_eq_getElem?_getD, List.getElem?_set_self hl]; rfl
  | d + 1, i, used, out, z, hl, hz => by
    have key : ∀ k, (matchTo X d i used out k).getD (used.length / 2) 0 = wrap64 (z + 1) := by
      intro k
      induction k with
      | zero => exact match_none X d (i + 1) used out z hl hz
      | succ k ih =>
        rw [matchTo_succ]
        split
        · rw [match_low X d (i + 1) _ _ _ (by rw [List.length_append]; show used.length / 2 < (used.length + 2) / 2; omega), ih]
        · exact ih
    exact key d
theorem match_none' (X : Nat → Nat → Bool) (d i : Nat) (used out : List Int) (z : Int) (j : Nat) (hj : used.length / 2 = j) (hl : j < out.length) (hz : out.getD j 0 = wrap64 z) : (matchW X d i used out).getD j 0 = wrap64 (z + 1) := by
  subst hj; exact match_none X d i used out z hl hz
theorem match_one (X : Nat → Nat → Bool) : ∀ (d i : Nat) (out : List Int) (z : Int), 1 < out.length → out.getD 1 0 = wrap64 z → (matchW X d i [] out).getD 1 0 = wrap64 (z + (prs X d i : Int))
  | 0, i, out, z, hl, hz => by
    rw [matchW, List.getD_eq_getElem?_getD, List.getElem?_set_ne (by decide), ← List.getD_eq_getElem?_getD, hz, prs]
    congr 1; simp
  | d + 1, i, out, z, hl, hz => by
    have key : ∀ k, k ≤ d → (matchTo X d i [] out k).getD 1 0 = wrap64 (z + ((prs X d (i + 1) + (List.range k).countP fun k => X i (i + 1 + k) : Nat) : Int)) := by
      intro k
      induction k with
      | zero =>
        intro _
        exact match_one X d (i + 1) out z hl hz
      | succ k ih =>
        intro hk
        have ih := ih (by omega)
        rw [matchTo_succ, List.range_succ, List.countP_append, List.countP_singleton]
        simp only [List.contains_nil, Bool.not_false, Bool.true_and, List.nil_append]
        by_cases hx : X i (i + 1 + k) = true
        · rw [if_pos hx, if_pos hx]
          have h := match_none' X d (i + 1) [(i : Int), ((i + 1 + k : Nat) : Int)] (matchTo X d i [] out k) (z + ((prs X d (i + 1) + (List.range k).countP fun k => X i (i + 1 + k) : Nat) : Int)) 1 (by simp) (by rw [matchTo_len]; exact hl) ih
          refine Eq.trans h ?_
          congr 1
          generalize (List.range k).countP _ = m
          omega
        · rw [if_neg hx, if_neg hx, Nat.add_zero]
          exact ih
    exact key d (Nat.le_refl _)
theorem prs_le (X : Nat → Nat → Bool) : ∀ d i, d ≤ 6 → prs X d i ≤ 36
  | d, i, h => by
    have key : ∀ d i, prs X d i ≤ d * d := by
      intro d
      induction d with
      | zero => intro i; exact Nat.le_refl _
      | succ d ih =>
        intro i
        rw [prs]
        have h1 := ih (i + 1)
        have h2 := List.countP_le_length (p := fun k => X i (i + 1 + k)) (l := List.range d)
        rw [List.length_range] at h2
        have : (d + 1) * (d + 1) = d * d + 2 * d + 1 := by rw [Nat.add_mul, Nat.mul_add]; omega
        omega
    exact Nat.le_trans (key d i) (Nat.mul_le_mul h h)
theorem matchV_zero (w : List Int) : (matchV w).getD 0 0 = 1 := by
  unfold matchV
  refine Eq.trans (match_none (crossB w) (w.length / 2) 0 [] _ 0 (by rw [List.length_replicate]; show 0 < _; omega) ?_) (by unfold wrap64; decide)
  show (List.replicate (w.length / 2 / 2 + 1) (0 : Int)).getD 0 0 = _
  rw [List.replicate_succ]
  show (0 : Int) = wrap64 0
  unfold wrap64; decide
theorem matchV_one (w : List Int) (hl : 2 ≤ w.length / 2) (hl2 : w.length ≤ 12) : (matchV w).getD 1 0 = (prs (crossB w) (w.length / 2) 0 : Int) := by
  have hp := prs_le (crossB w) (w.length / 2) 0 (by omega)
  unfold matchV
  refine Eq.trans (match_one (crossB w) (w.length / 2) 0 _ 0 (by rw [List.length_replicate]; omega) ?_) (by unfold wrap64; omega)
  rw [List.getD_eq_getElem?_getD, List.getElem?_replicate, if_pos (by omega)]
  unfold wrap64; decide
end Go.Proofs.YtcnekpdoldljgaaGreat.Pure
end
section
namespace Go.Proofs.YtcnekpdoldljgaaGreat.Pure
open Go.RowKit Go.Proofs.YtcnekpdoldljgaaGreat.F Go.Proofs.YtcnekpdoldljgaaGreat.Mem Go.Proofs.YtcnekpdoldljgaaGreatW.PrintWords Go.Proofs.YtcnekpdoldljgaaGreatW.PrintLast
def prsL : Nat → Nat → List (List Nat)
  | 0, _ => []
  | d + 1, i => prsL d (i + 1) ++ (List.range d).map fun k => [i, i + 1 + k]
theorem prs_L (X : Nat → Nat → Bool) : ∀ d i, (prsL d i).countP (fun l => X (l.getD 0 0) (l.getD 1 0)) = prs X d i
  | 0, _ => rfl
  | d + 1, i => by rw [prsL, prs, List.countP_append, prs_L X d (i + 1), List.countP_map]; rfl
theorem prsL_two : ∀ d i l, l ∈ prsL d i → ∃ a b, l = [a, b]
  | 0, _, l, h => by cases h
  | d + 1, i, l, h => by
    rw [prsL] at h
    rcases List.mem_append.1 h with h | h
    · exact prsL_two d (i + 1) l h
    · obtain ⟨k, _, rfl⟩ := List.mem_map.1 h
      exact ⟨_, _, rfl⟩
theorem prs_congr {X Y : Nat → Nat → Bool} {n : Nat} (h : ∀ i k, i < k → k < n → X i k = Y i k) : ∀ d i, i + d = n → prs X d i = prs Y d i
  | 0, _, _ => rfl
  | d + 1, i, e => by
    rw [prs, prs, prs_congr h d (i + 1) (by omega)]
    congr 1
    refine List.countP_congr (fun k hk => ?_)
    have := List.mem_range.1 hk
    rw [h i (i + 1 + k) (by omega) (by omega)]
theorem prs_both (X : Nat → Nat → Bool) : ∀ d i, 2 * (prs X d i + prs (fun i k => !X i k) d i) = d * (d - 1)
  | 0, _ => rfl
  | d + 1, i => by
    have ih := prs_both X d (i + 1)
    rw [prs, prs]
    have h := List.length_eq_countP_add_countP (fun k => X i (i + 1 + k)) (l := List.range d)
    rw [List.length_range] at h
    have e : (List.range d).countP (fun a => decide ¬ X i (i + 1 + a) = true) = (List.range d).countP fun k => !X i (i + 1 + k) := List.countP_congr (fun k _ => by cases X i (i + 1 + k) <;> simp)
    rw [e] at h
    have e2 : (d + 1) * (d + 1 - 1) = d * (d - 1) + 2 * d := by
      cases d with
      | zero => rfl
      | succ m =>
        simp only [Nat.add_sub_cancel]
        have h3 : (m + 1 + 1) * (m + 1) = (m + 1) * (m + 1) + (m + 1) := Nat.succ_mul _ _
        have h4 : (m + 1) * (m + 1) = (m + 1) * m + (m + 1) := Nat.mul_succ _ _
        omega
    rw [e2, ← ih]
    omega
def cntS (X : Nat → Nat → Bool) (c : Bool) (n j s : Nat) : Nat := (List.range s).countP fun t => decide ((setTo t n).length = j) && okTo X c (setTo t n) (setTo t n).length
theorem numsTo_at (X : Nat → Nat → Bool) (c : Bool) (n j : Nat) (hj : j ≤ n) : ∀ s, (numsTo X c n s).getD j 0 = wrap64 (cntS X c n j s : Int)
  | 0 => by
    rw [numsTo, List.getD_eq_getElem?_getD, List.getElem?_replicate, if_pos (by omega)]
    show (0 : Int) = wrap64 0
    unfold wrap64; decide
  | s + 1 => by
    have ih := numsTo_at X c n j hj s
    have hl := numsTo_len X c n s
    unfold cntS at ih ⊢
    rw [numsTo, List.range_succ, List.countP_append, List.countP_singleton]
    unfold bump
    by_cases hk : okTo X c (setTo s n) (setTo s n).length = true
    · rw [if_pos hk, hk, Bool.and_true]
      by_cases he : (setTo s n).length = j
      · rw [if_pos (decide_eq_true he), he, ih, wrap_more, List.getD_eq_getElem?_getD, List.getElem?_set_self (by omega), Option.getD_some]
        generalize (List.range s).countP _ = q
        exact congrArg wrap64 (by omega)
      · rw [if_neg (by simpa using he), Nat.add_zero, List.getD_eq_getElem?_getD, List.getElem?_set_ne he, ← List.getD_eq_getElem?_getD]
        exact ih
    · rw [if_neg hk, if_neg (by simp [hk]), Nat.add_zero]
      exact ih
theorem cntS_map (X : Nat → Nat → Bool) (c : Bool) (n j : Nat) {L : List (List Nat)} (h : (((List.range (2 ^ n)).filter fun t => decide ((setTo t n).length = j)).map fun t => setTo t n).isPerm L = true) : cntS X c n j (2 ^ n) = L.countP fun l => okTo X c l l.length := by
  rw [← (List.isPerm_iff.1 h).countP_eq, List.countP_map, List.countP_filter]
  unfold cntS
  refine List.countP_congr (fun t _ => ?_)
  simp only [Function.comp]
  rw [Bool.and_comm]
theorem okTo_two (X : Nat → Nat → Bool) (c : Bool) (a b : Nat) : okTo X c [a, b] 2 = (X b a == c) := by
  show ((true && !(false)) && !((X b a != c) || false)) = _
  cases X b a <;> cases c <;> rfl
theorem sets_none (X : Nat → Nat → Bool) (c : Bool) (n : Nat) (hn : n ≤ 6) : cntS X c n 0 (2 ^ n) = 1 := by
  have h : (((List.range (2 ^ n)).filter fun t => decide ((setTo t n).length = 0)).map fun t => setTo t n).isPerm [[]] = true := by
    have : n = 0 ∨ n = 1 ∨ n = 2 ∨ n = 3 ∨ n = 4 ∨ n = 5 ∨ n = 6 := by omega
    rcases this with rfl | rfl | rfl | rfl | rfl | rfl | rfl <;> decide +kernel
  rw [cntS_map X c n 0 h]; rfl
theorem sets_one (X : Nat → Nat → Bool) (c : Bool) (n : Nat) (hn : n ≤ 6) : cntS X c n 1 (2 ^ n) = n := by
  have h : (((List.range (2 ^ n)).filter fun t => decide ((setTo t n).length = 1)).map fun t => setTo t n).isPerm ((List.range n).map fun i => [i]) = true := by
    have : n = 0 ∨ n = 1 ∨ n = 2 ∨ n = 3 ∨ n = 4 ∨ n = 5 ∨ n = 6 := by omega
    rcases this with rfl | rfl | rfl | rfl | rfl | rfl | rfl <;> decide +kernel
  rw [cntS_map X c n 1 h, List.countP_map]
  refine Eq.trans (List.countP_eq_length.2 (fun a _ => ?_)) List.length_range
  rfl
theorem sets_two (X : Nat → Nat → Bool) (c : Bool) (n : Nat) (hn : n ≤ 6) : cntS X c n 2 (2 ^ n) = prs (fun i k => X k i == c) n 0 := by
  have h : (((List.range (2 ^ n)).filter fun t => decide ((setTo t n).length = 2)).map fun t => setTo t n).isPerm (prsL n 0) = true := by
    have : n = 0 ∨ n = 1 ∨ n = 2 ∨ n = 3 ∨ n = 4 ∨ n = 5 ∨ n = 6 := by omega
    rcases this with rfl | rfl | rfl | rfl | rfl | rfl | rfl <;> decide +kernel
  rw [cntS_map X c n 2 h, ← prs_L]
  refine List.countP_congr (fun l hl => ?_)
  obtain ⟨a, b, rfl⟩ := prsL_two n 0 l hl
  show okTo X c [a, b] 2 = true ↔ _
  rw [okTo_two]; rfl
theorem setsV_at (w : List Int) (c : Bool) (j v : Nat) (hj : j ≤ w.length / 2) (hv : cntS (crossB w) c (w.length / 2) j (2 ^ (w.length / 2)) = v) (hl : v ≤ 1000) : (setsV w c).getD j 0 = (v : Int) := by
  unfold setsV
  rw [numsTo_at _ _ _ _ hj, hv]
  unfold wrap64; omega
end Go.Proofs.YtcnekpdoldljgaaGreat.Pure
end
section
namespace Go.Proofs.YtcnekpdoldljgaaGreat.Pure
open Go.RowKit Go.Proofs.YtcnekpdoldljgaaGreat.F Go.Proofs.YtcnekpdoldljgaaGreat.Mem Go.Proofs.YtcnekpdoldljgaaGreatW.PrintWords Go.Proofs.YtcnekpdoldljgaaGreatW.PrintLast
theorem prs_last (X : Nat → Nat → Bool) : ∀ n i, prs X (n + 1) i = prs X n i + (List.range n).countP fun j => X (i + j) (i + n)
  | 0, i => by simp [prs]
  | n + 1, i => by
    have ih := prs_last X n (i + 1)
    have h1 : prs X (n + 1 + 1) i = prs X (n + 1) (i + 1) + (List.range (n + 1)).countP fun k => X i (i + 1 + k) := rfl
    have h2 : prs X (n + 1) i = prs X n (i + 1) + (List.range n).countP fun k => X i (i + 1 + k) := rfl
    rw [h1, ih, h2]
    have h3 : ((List.range (n + 1)).countP fun k => X i (i + 1 + k)) = ((List.range n).countP fun k => X i (i + 1 + k)) + if X i (i + 1 + n) = true then 1 else 0 := by
      rw [List.range_succ, List.countP_append, List.countP_singleton]
    have h4 : ((List.range (n + 1)).countP fun j => X (i + j) (i + (n + 1))) = (if X i (i + 1 + n) = true then 1 else 0) + (List.range n).countP fun j => X (i + 1 + j) (i + 1 + n) := by
      rw [List.range_succ_eq_map, List.countP_cons, List.countP_map, Nat.add_comm]
      have e : i + (n + 1) = i + 1 + n := by omega
      rw [e, Nat.add_zero]
      congr 1
      refine List.countP_congr (fun j _ => ?_)
      simp only [Function.comp]
      rw [show i + (j + 1) = i + 1 + j from by omega]
    rw [h3, h4]
    omega
theorem crossRow_count (w : List Int) (k : Nat) : ∀ i, crossRow w k i = (List.range i).countP fun j => crossB w j k
  | 0 => rfl
  | i + 1 => by rw [crossRow, crossRow_count w k i, List.range_succ, List.countP_append, List.countP_singleton]
theorem crossTo_prs (w : List Int) : ∀ n, crossTo w n = prs (crossB w) n 0
  | 0 => rfl
  | n + 1 => by
    rw [crossTo, crossTo_prs w n, prs_last, crossRow_count, Nat.zero_add]
    congr 1
    refine List.countP_congr (fun j _ => ?_)
    rw [Nat.zero_add]
end Go.Proofs.YtcnekpdoldljgaaGreat.Pure
end
section
namespace Go.Proofs.YtcnekpdoldljgaaGreat.Pure
open Go.RowKit Go.Proofs.YtcnekpdoldljgaaGreat.F Go.Proofs.YtcnekpdoldljgaaGreat.Mem Go.Proofs.YtcnekpdoldljgaaGreatW.PrintWords Go.Proofs.YtcnekpdoldljgaaGreatW.PrintLast
set_option linter.unusedVariables false
set_option linter.unusedSimpArgs false
theorem implCC_ev (w : List Int) (hwf : ∀ x ∈ w, (Lit.int .i64 x).wf = true) : Ev (fun k => impl_CountCrossings.f k w) (if isW w = true then ((crossTo w (w.length / 2) : Int), 0) else (0, 1)) := by
  unfold impl_CountCrossings.f
  refine Ev.bind (isWord_ev w hwf) ?_
  by_cases h : isW w = true
  · refine Ev.congr (fun k => if_pos h) ?_
    rw [if_pos h, if_pos h]
    exact Ev.now _
  · refine Ev.congr (fun k => if_neg h) ?_
    rw [if_neg h]
    exact Ev.now _
theorem half_pq (p q m : Nat) (h : 2 * (p + q) = 2 * m) : (q : Int) + (p : Int) = (m : Int) := by omega
theorem half_wrap (p q : Nat) (h1 : p ≤ 36) (h2 : q ≤ 36) : wrap64 ((q : Int) + (p : Int)) = (q : Int) + (p : Int) := by unfold wrap64; omega
theorem two_to_six (n : Nat) (h : ¬ ((n : Int) < 2)) (h6 : n ≤ 6) : n = 2 ∨ n = 3 ∨ n = 4 ∨ n = 5 ∨ n = 6 := by omega
theorem half_all (n p q : Nat) (h : n = 2 ∨ n = 3 ∨ n = 4 ∨ n = 5 ∨ n = 6) (hb : 2 * (p + q) = n * (n - 1)) : (q : Int) + (p : Int) = wrap64 (Int.tdiv (wrap64 ((n : Int) * (wrap64 ((n : Int) - 1)))) 2) := by
  rcases h with e | e | e | e | e <;> subst e
  · exact (half_pq p q 1 hb).trans (by decide +kernel)
  · exact (half_pq p q 3 hb).trans (by decide +kernel)
  · exact (half_pq p q 6 hb).trans (by decide +kernel)
  · exact (half_pq p q 10 hb).trans (by decide +kernel)
  · exact (half_pq p q 15 hb).trans (by decide +kernel)
theorem inter_last (u : List Int) (hw : Word u) : Ev (fun k => laws_FnInterlace.j5 k (setsV u false) (setsV u true) (matchV u) ((u.length / 2 : Nat) : Int) (crossTo u (u.length / 2) : Int) false) true := by
  have hle := hw.le
  obtain ⟨n, hn⟩ : ∃ n, n = u.length / 2 := ⟨_, rfl⟩
  have hn6 : n ≤ 6 := by omega
  have lI : (setsV u false).length = n + 1 := by unfold setsV; rw [numsTo_len, hn]
  have lC : (setsV u true).length = n + 1 := by unfold setsV; rw [numsTo_len, hn]
  have lM : (matchV u).length = n / 2 + 1 := by unfold matchV; rw [matchW_len, List.length_replicate, hn]
  have a0 : ∀ c, (setsV u c).getD 0 0 = 1 := fun c => setsV_at u c 0 1 (by omega) (by rw [← hn]; exact sets_none _ c n hn6) (by omega)
  have m0 := matchV_zero u
  refine Ev_succ ?_
  simp only [laws_FnInterlace.j5, Bool.false_eq_true, if_false]
  rw [show ∀ l : List Int, rd l 0 = l.getD 0 0 from fun _ => rfl, show ∀ l : List Int, rd l 0 = l.getD 0 0 from fun _ => rfl, show ∀ l : List Int, rd l 0 = l.getD 0 0 from fun _ => rfl]
  refine Ev.congr (fun k => if_pos (by omega)) (Ev.congr (fun k => if_pos (a0 false)) (Ev.congr (fun k => if_pos (by omega)) (Ev.congr (fun k => if_pos (a0 true)) (Ev.congr (fun k => if_pos (by omega)) (Ev.congr (fun k => if_pos m0) ?_)))))
  rw [← hn]
  by_cases h2 : (n : Int) < 2
  · exact Ev.congr (fun k => if_pos h2) (Ev.now _)
  refine Ev.congr (fun k => if_neg h2) ?_
  have a1 : ∀ c, rd (setsV u c) 1 = (n : Int) := fun c => setsV_at u c 1 n (by omega) (by rw [← hn]; exact sets_one _ c n hn6) (by omega)
  have sym : ∀ i k, i < k → k < n → crossB u k i = crossB u i k := fun i k hik hk => cross_symm hw (by omega) (by omega)
  have pT : prs (fun i k => crossB u k i == true) n 0 = prs (crossB u) n 0 := prs_congr (n := n) (fun i k hik hk => by rw [sym i k hik hk]; cases crossB u i k <;> rfl) n 0 (by omega)
  have pF : prs (fun i k => crossB u k i == false) n 0 = prs (fun i k => !crossB u i k) n 0 := prs_congr (n := n) (fun i k hik hk => by rw [sym i k hik hk]; cases crossB u i k <;> rfl) n 0 (by omega)
  have b1 := prs_le (crossB u) n 0 hn6
  have b2 := prs_le (fun i k => !crossB u i k) n 0 hn6
  have hboth := prs_both (crossB u) n 0
  have c2 : rd (setsV u true) 2 = (prs (crossB u) n 0 : Int) := setsV_at u true 2 _ (by omega) (by rw [← hn, sets_two _ true n hn6, pT]) (by omega)
  have i2 : rd (setsV u false) 2 = (prs (fun i k => !crossB u i k) n 0 : Int) := setsV_at u false 2 _ (by omega) (by rw [← hn, sets_two _ false n hn6, pF]) (by omega)
  have m1 : rd (matchV u) 1 = (prs (crossB u) n 0 : Int) := by rw [show rd (matchV u) 1 = (matchV u).getD 1 0 from rfl, matchV_one u (by omega) hle, hn]
  have x1 := crossTo_prs u n
  rw [c2, i2, m1, x1]
  refine Ev.congr (fun k => if_pos (by omega)) (Ev.congr (fun k => if_pos (a1 false)) (Ev.congr (fun k => if_pos (by omega)) (Ev.congr (fun k => if_pos (a1 true)) (Ev.congr (fun k => if_pos (by omega)) (Ev.congr (fun k => if_pos rfl) (Ev.congr (fun k => if_pos (by omega)) ?_))))))
  generalize prs (crossB u) n 0 = p at *
  generalize prs (fun i k => !crossB u i k) n 0 = q at *
  have hs : wrap64 ((q : Int) + (p : Int)) = wrap64 (Int.tdiv (wrap64 ((n : Int) * (wrap64 ((n : Int) - 1)))) 2) := by
    rw [half_wrap p q b1 b2]
    exact half_all n p q (two_to_six n h2 hn6) hboth
  refine Ev.congr (fun k => if_pos hs) (Ev.congr (fun k => if_pos (by omega)) ?_)
  rw [show ((p : Int) == (p : Int)) = true from by simp]
  exact Ev.now _
theorem FnInterlace : laws_FnInterlace.Pure := by
  intro c hm hl hw
  refine Ev.rounds ?_
  unfold laws_FnInterlace.f laws_big.f
  simp only [Option.bind_some]
  by_cases hb : (c.length : Int) > 4096
  · exact Ev.congr (fun _ => if_pos (decide_eq_true hb)) (Ev.now _)
  refine Ev.congr (fun _ => if_neg (by rw [decide_eq_true_eq]; exact hb)) ?_
  have hl4 : c.length ≤ 4096 := by omega
  have hby : ∀ x ∈ c, 0 ≤ x ∧ x ≤ 255 := fun x hx => by
    have := hw x hx
    simp only [Lit.wf, Bool.and_eq_true, decide_eq_true_eq] at this
    exact ⟨this.1, this.2⟩
  obtain ⟨s2, ef, hs⟩ := from_ok c hl4 hby
  obtain ⟨u, su, tu, eu, hsu, hul, huf⟩ := spoil_ok hs s2
  obtain ⟨i, sp, tp, hi, ep, hsp⟩ := pick_ok hsu tu [0, 1, 2, (-1), 3, 100, 101, (-100)] (by simp) (by simp)
  have d1 : Ev (fun k => spec_DrawInterlacePolynomial.f k c) u := by
    unfold spec_DrawInterlacePolynomial.f
    exact Ev.bind ef (Ev.bind eu (Ev.now _))
  obtain ⟨x, hx⟩ : ∃ x, ([0, 1, 2, (-1), 3, 100, 101, (-100)] : List Int).getD i 0 = x := ⟨_, rfl⟩
  rw [hx] at ep
  have d2 : Ev (fun k => spec_DrawValueOfInterlace.f k c) (u, x) := by
    unfold spec_DrawValueOfInterlace.f
    refine Ev.bind ef (Ev.bind eu ?_)
    dsimp only
    rw [ep]
    exact Ev.now _
  refine Ev.bind d1 (Ev.bind (implInt_ev u huf) (Ev.bind (specInt_ev u) (Ev.congr (fun k => if_pos rfl) (Ev.bind (like_ev _ (intV_len u)) (Ev_succ ?_)))))
  simp only [laws_FnInterlace.j0, Bool.not_true, Bool.false_eq_true, if_false]
  refine Ev.bind d2 (Ev.bind (implValI_ev u x huf) (Ev.bind (specValI_ev u x) (Ev.congr (fun k => if_pos rfl) (Ev_succ ?_))))
  simp only [laws_FnInterlace.j1, bne_self_eq_false, Bool.false_eq_true, if_false]
  refine Ev.bind (implInd_ev u huf) (Ev.bind (specInd_ev u) (Ev.congr (fun k => if_pos rfl) (Ev.bind (like_ev _ (setsB_false_len u)) (Ev_succ ?_))))
  simp only [laws_FnInterlace.j2, Bool.not_true, Bool.false_eq_true, if_false]
  refine Ev.bind (implCli_ev u huf) (Ev.bind (specCli_ev u) (Ev.congr (fun k => if_pos rfl) (Ev.bind (like_ev _ (setsB_true_len u)) (Ev_succ ?_))))
  simp only [laws_FnInterlace.j3, Bool.not_true, Bool.false_eq_true, if_false]
  refine Ev.bind (implMat_ev u huf) (Ev.bind (specMat_ev u) (Ev.congr (fun k => if_pos rfl) (Ev.bind (like_ev _ (matV_len u)) (Ev_succ ?_))))
  simp only [laws_FnInterlace.j4, Bool.not_true, Bool.false_eq_true, if_false]
  by_cases g : isW u = true
  · have hwd := (isW_iff u).1 g
    have hle := hwd.le
    obtain ⟨n, hn⟩ : ∃ n, n = u.length / 2 := ⟨_, rfl⟩
    have e0 : intV u = (interlaceV u, 0) := by unfold intV; rw [if_pos g]
    have e1 : setsB_false u = (setsV u false, 0) := by unfold setsB_false setsB; rw [if_pos g]
    have e2 : setsB_true u = (setsV u true, 0) := by unfold setsB_true setsB; rw [if_pos g]
    have e3 : matV u = (matchV u, 0) := by unfold matV; rw [if_pos g]
    have e4 : valV u 2 = (((2 ^ n : Nat) : Int), 0) := by
      unfold valV
      rw [if_pos g, if_pos (by decide), inter_two hwd, hn]
    have e5 := implCC_ev u huf
    rw [if_pos g] at e5
    have e6 : wrap64 ((u.length : Int) / 2) = ((u.length / 2 : Nat) : Int) := by unfold wrap64; omega
    have e7 : shl .i64 1 ((u.length / 2 : Nat) : Int) = ((2 ^ n : Nat) : Int) := by rw [hn]; exact shl_nat _ (by omega)
    rw [e0, e1, e2, e3]
    refine Ev.congr (fun k => if_pos rfl) (Ev.bind (implValI_ev u 2 huf) (Ev.bind e5 ?_))
    rw [e4, e6, u64_nat _ (by omega), e7]
    dsimp only
    refine Ev.congr (fun k => if_pos rfl) (Ev.congr (fun k => if_pos (by omega)) (Ev.congr (fun k => if_pos rfl) (Ev.congr (fun k => if_pos rfl) (Ev.congr (fun k => if_pos rfl) (Ev.congr (fun k => if_pos rfl) ?_)))))
    exact inter_last u hwd
  · have e0 : intV u = ([], 1) := by unfold intV; rw [if_neg g]
    rw [e0]
    exact Ev.congr (fun k => if_neg (by decide)) (Ev.now _)
end Go.Proofs.YtcnekpdoldljgaaGreat.Pure
end
