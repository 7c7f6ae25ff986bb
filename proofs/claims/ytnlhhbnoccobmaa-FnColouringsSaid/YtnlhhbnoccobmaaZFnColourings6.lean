/- Words, walks and plain laws that the row of the law FnColourings uses. -/
import Derived.Test.YtnlhhbnoccobmaaZFnColourings5
import Derived.Laws.Bits64
import Derived.Laws.Bits64b
section
namespace Go.Proofs.Ytnlhhbnoccobmaa.F
open Go.RowKit Go.Proofs.YtnlhhbnoccobmaaW.PrintWords Go.Proofs.YtnlhhbnoccobmaaW.PrintLast Go.Proofs.YtnlhhbnoccobmaaW.PrintMore
attribute [local go_sem] max2_int min2_int max_two min_two max_three min_three max_four min_four   
set_option linter.unusedVariables false
set_option linter.unusedSimpArgs false
mutual
def laws_FnColourings.j0 : Nat → List Int → Int → Int → Bool → Option (Bool)
 | 0, _, _, _, _ => none
 | k + 1, x0, x5, x6, x54 => if x54 = true then (some false) else ((spec_DrawColouringPolynomial.f k x0).bind fun t111010 => ((impl_ColouringPolynomial.f k t111010).bind fun bt111013 => ((spec_ColouringPolynomial.f k t111010).bind fun bt111017 => (if bt111013.2 = bt111017.2 then ((laws_likeInts.f k bt111013.1 bt111017.1).bind fun t111021 => (laws_FnColourings.j1 k x0 x5 x6 t111010 bt111013.1 bt111013.2 (!t111021))) else (laws_FnColourings.j1 k x0 x5 x6 t111010 bt111013.1 bt111013.2 true)))))
def laws_FnColourings.j1 : Nat → List Int → Int → Int → List Int → List Int → Int → Bool → Option (Bool)
 | 0, _, _, _, _, _, _, _ => none
 | k + 1, x0, x5, x6, x9, x10, x11, x75 => if x75 = true then (some false) else ((spec_DrawLeastColours.f k x0).bind fun t111022 => ((impl_LeastColours.f k t111022).bind fun bt111025 => ((spec_LeastColours.f k t111022).bind fun bt111027 => (if bt111025.2 = bt111027.2 then (laws_FnColourings.j2 k x5 x6 x9 x10 x11 t111022 bt111025.1 bt111025.2 (bt111025.1 != bt111027.1)) else (laws_FnColourings.j2 k x5 x6 x9 x10 x11 t111022 bt111025.1 bt111025.2 true)))))
def laws_FnColourings.j2 : Nat → Int → Int → List Int → List Int → Int → List Int → Int → Int → Bool → Option (Bool)
 | 0, _, _, _, _, _, _, _, _, _ => none
 | k + 1, x5, x6, x9, x10, x11, x14, x15, x16, x95 => if x95 = true then (some false) else (if x11 = 0 then (laws_FnColourings.l0 k x5 x6 x9 x10 x14 x15 x16 0) else (laws_FnColourings.j5 k x5 x6 x14 x15 x16))
def laws_FnColourings.j5 : Nat → Int → Int → List Int → Int → Int → Option (Bool)
 | 0, _, _, _, _, _ => none
 | k + 1, x5, x6, x14, x15, x16 => if x16 = 0 then (laws_FnColourings.j6 k x5 x6 x14 x15 (decide (x15 ≤ 8))) else (laws_FnColourings.j6 k x5 x6 x14 x15 false)
def laws_FnColourings.j6 : Nat → Int → Int → List Int → Int → Bool → Option (Bool)
 | 0, _, _, _, _, _ => none
 | k + 1, x5, x6, x14, x15, x135 => if x135 = true then ((impl_CountColourings.f k x14 x15).bind fun bt111032 => (if bt111032.2 = 0 then (laws_FnColourings.j7 k x5 x6 x14 x15 (decide (bt111032.1 < 1))) else (laws_FnColourings.j7 k x5 x6 x14 x15 true))) else (if x6 = 0 then (some (decide (x5 ≥ 0))) else (some true))
def laws_FnColourings.j7 : Nat → Int → Int → List Int → Int → Bool → Option (Bool)
 | 0, _, _, _, _, _ => none
 | k + 1, x5, x6, x14, x15, x147 => if x147 = true then (some false) else (if x15 > 0 then ((impl_CountColourings.f k x14 (wrap64 (x15 - 1))).bind fun bt111034 => (if bt111034.2 = 0 then (if bt111034.1 = 0 then (if x6 = 0 then (some (decide (x5 ≥ 0))) else (some true)) else (some false)) else (some false))) else (if x6 = 0 then (some (decide (x5 ≥ 0))) else (some true)))
def laws_FnColourings.l0 : Nat → Int → Int → List Int → List Int → List Int → Int → Int → Int → Option (Bool)
 | 0, _, _, _, _, _, _, _, _ => none
 | k + 1, x5, x6, x9, x10, x14, x15, x16, x19 => if x19 ≤ 3 then (laws_FnColourings.l1 k x5 x6 x9 x10 x14 x15 x16 x19 0 (wrap64 ((x10.length : Int) - 1))) else (laws_FnColourings.j5 k x5 x6 x14 x15 x16)
def laws_FnColourings.l1 : Nat → Int → Int → List Int → List Int → List Int → Int → Int → Int → Int → Int → Option (Bool)
 | 0, _, _, _, _, _, _, _, _, _, _ => none
 | k + 1, x5, x6, x9, x10, x14, x15, x16, x19, x20, x21 => if x21 ≥ 0 then (if 0 ≤ x21 then (if x21 < (x10.length : Int) then (laws_FnColourings.l1 k x5 x6 x9 x10 x14 x15 x16 x19 (wrap64 ((wrap64 (x20 * x19)) + (rd x10 x21))) (wrap64 (x21 - 1))) else (none)) else (none)) else ((impl_CountColourings.f k x9 x19).bind fun bt111030 => (if bt111030.2 = 0 then (if bt111030.1 = x20 then (laws_FnColourings.l0 k x5 x6 x9 x10 x14 x15 x16 (wrap64 (x19 + 1))) else (some false)) else (some false)))
end
def laws_FnColourings.f (k : Nat) (l0 : List Int) : Option (Bool) := (laws_big.f l0).bind fun t111001 => (if t111001 = true then (some true) else ((spec_DrawCountColourings.f k l0).bind fun bt111002 => ((impl_CountColourings.f k bt111002.1 bt111002.2).bind fun bt111006 => ((spec_CountColourings.f k bt111002.1 bt111002.2).bind fun bt111008 => (if bt111006.2 = bt111008.2 then (laws_FnColourings.j0 k l0 bt111006.1 bt111006.2 (bt111006.1 != bt111008.1)) else (laws_FnColourings.j0 k l0 bt111006.1 bt111006.2 true))))))
theorem laws_FnColourings.mono_l : ∀ k, (∀ y0 y1 y2 y3, LeO (laws_FnColourings.j0 k y0 y1 y2 y3) (laws_FnColourings.j0 (k + 1) y0 y1 y2 y3)) ∧ (∀ y0 y1 y2 y3 y4 y5 y6, LeO (laws_FnColourings.j1 k y0 y1 y2 y3 y4 y5 y6) (laws_FnColourings.j1 (k + 1) y0 y1 y2 y3 y4 y5 y6)) ∧ (∀ y0 y1 y2 y3 y4 y5 y6 y7 y8, LeO (laws_FnColourings.j2 k y0 y1 y2 y3 y4 y5 y6 y7 y8) (laws_FnColourings.j2 (k + 1) y0 y1 y2 y3 y4 y5 y6 y7 y8)) ∧ (∀ y0 y1 y2 y3 y4, LeO (laws_FnColourings.j5 k y0 y1 y2 y3 y4) (laws_FnColourings.j5 (k + 1) y0 y1 y2 y3 y4)) ∧ (∀ y0 y1 y2 y3 y4, LeO (laws_FnColourings.j6 k y0 y1 y2 y3 y4) (laws_FnColourings.j6 (k + 1) y0 y1 y2 y3 y4)) ∧ (∀ y0 y1 y2 y3 y4, LeO (laws_FnColourings.j7 k y0 y1 y2 y3 y4) (laws_FnColourings.j7 (k + 1) y0 y1 y2 y3 y4)) ∧ (∀ y0 y1 y2 y3 y4 y5 y6 y7, LeO (laws_FnColourings.l0 k y0 y1 y2 y3 y4 y5 y6 y7) (laws_FnColourings.l0 (k + 1) y0 y1 y2 y3 y4 y5 y6 y7)) ∧ (∀ y0 y1 y2 y3 y4 y5 y6 y7 y8 y9, LeO (laws_FnColourings.l1 k y0 y1 y2 y3 y4 y5 y6 y7 y8 y9) (laws_FnColourings.l1 (k + 1) y0 y1 y2 y3 y4 y5 y6 y7 y8 y9))
 | 0 => ⟨fun _ _ _ _ r h => by simp [laws_FnColourings.j0] at h, fun _ _ _ _ _ _ _ r h => by simp [laws_FnColourings.j1] at h, fun _ _ _ _ _ _ _ _ _ r h => by simp [laws_FnColourings.j2] at h, fun _ _ _ _ _ r h => by simp [laws_FnColourings.j5] at h, fun _ _ _ _ _ r h => by simp [laws_FnColourings.j6] at h, fun _ _ _ _ _ r h => by simp [laws_FnColourings.j7] at h, fun _ _ _ _ _ _ _ _ r h => by simp [laws_FnColourings.l0] at h, fun _ _ _ _ _ _ _ _ _ _ r h => by simp [laws_FnColourings.l1] at h⟩
 | k + 1 => by
  obtain ⟨ih0, ih1, ih2, ih3, ih4, ih5, ih6, ih7⟩ := laws_FnColourings.mono_l k
  refine ⟨?_, ?_, ?_, ?_, ?_, ?_, ?_, ?_⟩
  ·intro y0 y1 y2 y3
   unfold laws_FnColourings.j0
   repeat' first
   | (with_reducible exact ih0 _ _ _ _)
   | (with_reducible exact ih1 _ _ _ _ _ _ _)
   | (with_reducible exact ih2 _ _ _ _ _ _ _ _ _)
   | (with_reducible exact ih3 _ _ _ _ _)
   | (with_reducible exact ih4 _ _ _ _ _)
   | (with_reducible exact ih5 _ _ _ _ _)
   | (with_reducible exact ih6 _ _ _ _ _ _ _ _)
   | (with_reducible exact ih7 _ _ _ _ _ _ _ _ _ _)
   | (with_reducible exact impl_ColouringPolynomial.mono _ _)
   | (with_reducible exact impl_CountColourings.mono _ _ _)
   | (with_reducible exact impl_LeastColours.mono _ _)
   | (with_reducible exact laws_likeInts.mono _ _ _)
   | (with_reducible exact spec_ColouringPolynomial.mono _ _)
   | (with_reducible exact spec_CountColourings.mono _ _ _)
   | (with_reducible exact spec_DrawColouringPolynomial.mono _ _)
   | (with_reducible exact spec_DrawCountColourings.mono _ _)
   | (with_reducible exact spec_DrawLeastColours.mono _ _)
   | (with_reducible exact spec_LeastColours.mono _ _)
   | (with_reducible exact LeO.refl _)
   | (with_reducible exact LeO.none _)
   | (with_reducible refine LeO.ite ?_ ?_)
   | (with_reducible refine LeO.bind ?_ (fun _ => ?_))
   | exact ih0 _ _ _ _
   | exact ih1 _ _ _ _ _ _ _
   | exact ih2 _ _ _ _ _ _ _ _ _
   | exact ih3 _ _ _ _ _
   | exact ih4 _ _ _ _ _
   | exact ih5 _ _ _ _ _
   | exact ih6 _ _ _ _ _ _ _ _
   | exact ih7 _ _ _ _ _ _ _ _ _ _
   | exact impl_ColouringPolynomial.mono _ _
   | exact impl_CountColourings.mono _ _ _
   | exact impl_LeastColours.mono _ _
   | exact laws_likeInts.mono _ _ _
   | exact spec_ColouringPolynomial.mono _ _
   | exact spec_CountColourings.mono _ _ _
   | exact spec_DrawColouringPolynomial.mono _ _
   | exact spec_DrawCountColourings.mono _ _
   | exact spec_DrawLeastColours.mono _ _
   | exact spec_LeastColours.mono _ _
   | exact LeO.none _
   | refine LeO.ite ?_ ?_
   | refine LeO.bind ?_ (fun _ => ?_)
  ·intro y0 y1 y2 y3 y4 y5 y6
   unfold laws_FnColourings.j1
   repeat' first
   | (with_reducible exact ih0 _ _ _ _)
   | (with_reducible exact ih1 _ _ _ _ _ _ _)
   | (with_reducible exact ih2 _ _ _ _ _ _ _ _ _)
   | (with_reducible exact ih3 _ _ _ _ _)
   | (with_reducible exact ih4 _ _ _ _ _)
   | (with_reducible exact ih5 _ _ _ _ _)
   | (with_reducible exact ih6 _ _ _ _ _ _ _ _)
   | (with_reducible exact ih7 _ _ _ _ _ _ _ _ _ _)
   | (with_reducible exact impl_ColouringPolynomial.mono _ _)
   | (with_reducible exact impl_CountColourings.mono _ _ _)
   | (with_reducible exact impl_LeastColours.mono _ _)
   | (with_reducible exact laws_likeInts.mono _ _ _)
   | (with_reducible exact spec_ColouringPolynomial.mono _ _)
   | (with_reducible exact spec_CountColourings.mono _ _ _)
   | (with_reducible exact spec_DrawColouringPolynomial.mono _ _)
   | (with_reducible exact spec_DrawCountColourings.mono _ _)
   | (with_reducible exact spec_DrawLeastColours.mono _ _)
   | (with_reducible exact spec_LeastColours.mono _ _)
   | (with_reducible exact LeO.refl _)
   | (with_reducible exact LeO.none _)
   | (with_reducible refine LeO.ite ?_ ?_)
   | (with_reducible refine LeO.bind ?_ (fun _ => ?_))
   | exact ih0 _ _ _ _
   | exact ih1 _ _ _ _ _ _ _
   | exact ih2 _ _ _ _ _ _ _ _ _
   | exact ih3 _ _ _ _ _
   | exact ih4 _ _ _ _ _
   | exact ih5 _ _ _ _ _
   | exact ih6 _ _ _ _ _ _ _ _
   | exact ih7 _ _ _ _ _ _ _ _ _ _
   | exact impl_ColouringPolynomial.mono _ _
   | exact impl_CountColourings.mono _ _ _
   | exact impl_LeastColours.mono _ _
   | exact laws_likeInts.mono _ _ _
   | exact spec_ColouringPolynomial.mono _ _
   | exact spec_CountColourings.mono _ _ _
   | exact spec_DrawColouringPolynomial.mono _ _
   | exact spec_DrawCountColourings.mono _ _
   | exact spec_DrawLeastColours.mono _ _
   | exact spec_LeastColours.mono _ _
   | exact LeO.none _
   | refine LeO.ite ?_ ?_
   | refine LeO.bind ?_ (fun _ => ?_)
  ·intro y0 y1 y2 y3 y4 y5 y6 y7 y8
   unfold laws_FnColourings.j2
   repeat' first
   | (with_reducible exact ih0 _ _ _ _)
   | (with_reducible exact ih1 _ _ _ _ _ _ _)
   | (with_reducible exact ih2 _ _ _ _ _ _ _ _ _)
   | (with_reducible exact ih3 _ _ _ _ _)
   | (with_reducible exact ih4 _ _ _ _ _)
   | (with_reducible exact ih5 _ _ _ _ _)
   | (with_reducible exact ih6 _ _ _ _ _ _ _ _)
   | (with_reducible exact ih7 _ _ _ _ _ _ _ _ _ _)
   | (with_reducible exact impl_ColouringPolynomial.mono _ _)
   | (with_reducible exact impl_CountColourings.mono _ _ _)
   | (with_reducible exact impl_LeastColours.mono _ _)
   | (with_reducible exact laws_likeInts.mono _ _ _)
   | (with_reducible exact spec_ColouringPolynomial.mono _ _)
   | (with_reducible exact spec_CountColourings.mono _ _ _)
   | (with_reducible exact spec_DrawColouringPolynomial.mono _ _)
   | (with_reducible exact spec_DrawCountColourings.mono _ _)
   | (with_reducible exact spec_DrawLeastColours.mono _ _)
   | (with_reducible exact spec_LeastColours.mono _ _)
   | (with_reducible exact LeO.refl _)
   | (with_reducible exact LeO.none _)
   | (with_reducible refine LeO.ite ?_ ?_)
   | (with_reducible refine LeO.bind ?_ (fun _ => ?_))
   | exact ih0 _ _ _ _
   | exact ih1 _ _ _ _ _ _ _
   | exact ih2 _ _ _ _ _ _ _ _ _
   | exact ih3 _ _ _ _ _
   | exact ih4 _ _ _ _ _
   | exact ih5 _ _ _ _ _
   | exact ih6 _ _ _ _ _ _ _ _
   | exact ih7 _ _ _ _ _ _ _ _ _ _
   | exact impl_ColouringPolynomial.mono _ _
   | exact impl_CountColourings.mono _ _ _
   | exact impl_LeastColours.mono _ _
   | exact laws_likeInts.mono _ _ _
   | exact spec_ColouringPolynomial.mono _ _
   | exact spec_CountColourings.mono _ _ _
   | exact spec_DrawColouringPolynomial.mono _ _
   | exact spec_DrawCountColourings.mono _ _
   | exact spec_DrawLeastColours.mono _ _
   | exact spec_LeastColours.mono _ _
   | exact LeO.none _
   | refine LeO.ite ?_ ?_
   | refine LeO.bind ?_ (fun _ => ?_)
  ·intro y0 y1 y2 y3 y4
   unfold laws_FnColourings.j5
   repeat' first
   | (with_reducible exact ih0 _ _ _ _)
   | (with_reducible exact ih1 _ _ _ _ _ _ _)
   | (with_reducible exact ih2 _ _ _ _ _ _ _ _ _)
   | (with_reducible exact ih3 _ _ _ _ _)
   | (with_reducible exact ih4 _ _ _ _ _)
   | (with_reducible exact ih5 _ _ _ _ _)
   | (with_reducible exact ih6 _ _ _ _ _ _ _ _)
   | (with_reducible exact ih7 _ _ _ _ _ _ _ _ _ _)
   | (with_reducible exact impl_ColouringPolynomial.mono _ _)
   | (with_reducible exact impl_CountColourings.mono _ _ _)
   | (with_reducible exact impl_LeastColours.mono _ _)
   | (with_reducible exact laws_likeInts.mono _ _ _)
   | (with_reducible exact spec_ColouringPolynomial.mono _ _)
   | (with_reducible exact spec_CountColourings.mono _ _ _)
   | (with_reducible exact spec_DrawColouringPolynomial.mono _ _)
   | (with_reducible exact spec_DrawCountColourings.mono _ _)
   | (with_reducible exact spec_DrawLeastColours.mono _ _)
   | (with_reducible exact spec_LeastColours.mono _ _)
   | (with_reducible exact LeO.refl _)
   | (with_reducible exact LeO.none _)
   | (with_reducible refine LeO.ite ?_ ?_)
   | (with_reducible refine LeO.bind ?_ (fun _ => ?_))
   | exact ih0 _ _ _ _
   | exact ih1 _ _ _ _ _ _ _
   | exact ih2 _ _ _ _ _ _ _ _ _
   | exact ih3 _ _ _ _ _
   | exact ih4 _ _ _ _ _
   | exact ih5 _ _ _ _ _
   | exact ih6 _ _ _ _ _ _ _ _
   | exact ih7 _ _ _ _ _ _ _ _ _ _
   | exact impl_ColouringPolynomial.mono _ _
   | exact impl_CountColourings.mono _ _ _
   | exact impl_LeastColours.mono _ _
   | exact laws_likeInts.mono _ _ _
   | exact spec_ColouringPolynomial.mono _ _
   | exact spec_CountColourings.mono _ _ _
   | exact spec_DrawColouringPolynomial.mono _ _
   | exact spec_DrawCountColourings.mono _ _
   | exact spec_DrawLeastColours.mono _ _
   | exact spec_LeastColours.mono _ _
   | exact LeO.none _
   | refine LeO.ite ?_ ?_
   | refine LeO.bind ?_ (fun _ => ?_)
  ·intro y0 y1 y2 y3 y4
   unfold laws_FnColourings.j6
   repeat' first
   | (with_reducible exact ih0 _ _ _ _)
   | (with_reducible exact ih1 _ _ _ _ _ _ _)
   | (with_reducible exact ih2 _ _ _ _ _ _ _ _ _)
   | (with_reducible exact ih3 _ _ _ _ _)
   | (with_reducible exact ih4 _ _ _ _ _)
   | (with_reducible exact ih5 _ _ _ _ _)
   | (with_reducible exact ih6 _ _ _ _ _ _ _ _)
   | (with_reducible exact ih7 _ _ _ _ _ _ _ _ _ _)
   | (with_reducible exact impl_ColouringPolynomial.mono _ _)
   | (with_reducible exact impl_CountColourings.mono _ _ _)
   | (with_reducible exact impl_LeastColours.mono _ _)
   | (with_reducible exact laws_likeInts.mono _ _ _)
   | (with_reducible exact spec_ColouringPolynomial.mono _ _)
   | (with_reducible exact spec_CountColourings.mono _ _ _)
   | (with_reducible exact spec_DrawColouringPolynomial.mono _ _)
   | (with_reducible exact spec_DrawCountColourings.mono _ _)
   | (with_reducible exact spec_DrawLeastColours.mono _ _)
   | (with_reducible exact spec_LeastColours.mono _ _)
   | (with_reducible exact LeO.refl _)
   | (with_reducible exact LeO.none _)
   | (with_reducible refine LeO.ite ?_ ?_)
   | (with_reducible refine LeO.bind ?_ (fun _ => ?_))
   | exact ih0 _ _ _ _
   | exact ih1 _ _ _ _ _ _ _
   | exact ih2 _ _ _ _ _ _ _ _ _
   | exact ih3 _ _ _ _ _
   | exact ih4 _ _ _ _ _
   | exact ih5 _ _ _ _ _
   | exact ih6 _ _ _ _ _ _ _ _
   | exact ih7 _ _ _ _ _ _ _ _ _ _
   | exact impl_ColouringPolynomial.mono _ _
   | exact impl_CountColourings.mono _ _ _
   | exact impl_LeastColours.mono _ _
   | exact laws_likeInts.mono _ _ _
   | exact spec_ColouringPolynomial.mono _ _
   | exact spec_CountColourings.mono _ _ _
   | exact spec_DrawColouringPolynomial.mono _ _
   | exact spec_DrawCountColourings.mono _ _
   | exact spec_DrawLeastColours.mono _ _
   | exact spec_LeastColours.mono _ _
   | exact LeO.none _
   | refine LeO.ite ?_ ?_
   | refine LeO.bind ?_ (fun _ => ?_)
  ·intro y0 y1 y2 y3 y4
   unfold laws_FnColourings.j7
   repeat' first
   | (with_reducible exact ih0 _ _ _ _)
   | (with_reducible exact ih1 _ _ _ _ _ _ _)
   | (with_reducible exact ih2 _ _ _ _ _ _ _ _ _)
   | (with_reducible exact ih3 _ _ _ _ _)
   | (with_reducible exact ih4 _ _ _ _ _)
   | (with_reducible exact ih5 _ _ _ _ _)
   | (with_reducible exact ih6 _ _ _ _ _ _ _ _)
   | (with_reducible exact ih7 _ _ _ _ _ _ _ _ _ _)
   | (with_reducible exact impl_ColouringPolynomial.mono _ _)
   | (with_reducible exact impl_CountColourings.mono _ _ _)
   | (with_reducible exact impl_LeastColours.mono _ _)
   | (with_reducible exact laws_likeInts.mono _ _ _)
   | (with_reducible exact spec_ColouringPolynomial.mono _ _)
   | (with_reducible exact spec_CountColourings.mono _ _ _)
   | (with_reducible exact spec_DrawColouringPolynomial.mono _ _)
   | (with_reducible exact spec_DrawCountColourings.mono _ _)
   | (with_reducible exact spec_DrawLeastColours.mono _ _)
   | (with_reducible exact spec_LeastColours.mono _ _)
   | (with_reducible exact LeO.refl _)
   | (with_reducible exact LeO.none _)
   | (with_reducible refine LeO.ite ?_ ?_)
   | (with_reducible refine LeO.bind ?_ (fun _ => ?_))
   | exact ih0 _ _ _ _
   | exact ih1 _ _ _ _ _ _ _
   | exact ih2 _ _ _ _ _ _ _ _ _
   | exact ih3 _ _ _ _ _
   | exact ih4 _ _ _ _ _
   | exact ih5 _ _ _ _ _
   | exact ih6 _ _ _ _ _ _ _ _
   | exact ih7 _ _ _ _ _ _ _ _ _ _
   | exact impl_ColouringPolynomial.mono _ _
   | exact impl_CountColourings.mono _ _ _
   | exact impl_LeastColours.mono _ _
   | exact laws_likeInts.mono _ _ _
   | exact spec_ColouringPolynomial.mono _ _
   | exact spec_CountColourings.mono _ _ _
   | exact spec_DrawColouringPolynomial.mono _ _
   | exact spec_DrawCountColourings.mono _ _
   | exact spec_DrawLeastColours.mono _ _
   | exact spec_LeastColours.mono _ _
   | exact LeO.none _
   | refine LeO.ite ?_ ?_
   | refine LeO.bind ?_ (fun _ => ?_)
  ·intro y0 y1 y2 y3 y4 y5 y6 y7
   unfold laws_FnColourings.l0
   repeat' first
   | (with_reducible exact ih0 _ _ _ _)
   | (with_reducible exact ih1 _ _ _ _ _ _ _)
   | (with_reducible exact ih2 _ _ _ _ _ _ _ _ _)
   | (with_reducible exact ih3 _ _ _ _ _)
   | (with_reducible exact ih4 _ _ _ _ _)
   | (with_reducible exact ih5 _ _ _ _ _)
   | (with_reducible exact ih6 _ _ _ _ _ _ _ _)
   | (with_reducible exact ih7 _ _ _ _ _ _ _ _ _ _)
   | (with_reducible exact impl_ColouringPolynomial.mono _ _)
   | (with_reducible exact impl_CountColourings.mono _ _ _)
   | (with_reducible exact impl_LeastColours.mono _ _)
   | (with_reducible exact laws_likeInts.mono _ _ _)
   | (with_reducible exact spec_ColouringPolynomial.mono _ _)
   | (with_reducible exact spec_CountColourings.mono _ _ _)
   | (with_reducible exact spec_DrawColouringPolynomial.mono _ _)
   | (with_reducible exact spec_DrawCountColourings.mono _ _)
   | (with_reducible exact spec_DrawLeastColours.mono _ _)
   | (with_reducible exact spec_LeastColours.mono _ _)
   | (with_reducible exact LeO.refl _)
   | (with_reducible exact LeO.none _)
   | (with_reducible refine LeO.ite ?_ ?_)
   | (with_reducible refine LeO.bind ?_ (fun _ => ?_))
   | exact ih0 _ _ _ _
   | exact ih1 _ _ _ _ _ _ _
   | exact ih2 _ _ _ _ _ _ _ _ _
   | exact ih3 _ _ _ _ _
   | exact ih4 _ _ _ _ _
   | exact ih5 _ _ _ _ _
   | exact ih6 _ _ _ _ _ _ _ _
   | exact ih7 _ _ _ _ _ _ _ _ _ _
   | exact impl_ColouringPolynomial.mono _ _
   | exact impl_CountColourings.mono _ _ _
   | exact impl_LeastColours.mono _ _
   | exact laws_likeInts.mono _ _ _
   | exact spec_ColouringPolynomial.mono _ _
   | exact spec_CountColourings.mono _ _ _
   | exact spec_DrawColouringPolynomial.mono _ _
   | exact spec_DrawCountColourings.mono _ _
   | exact spec_DrawLeastColours.mono _ _
   | exact spec_LeastColours.mono _ _
   | exact LeO.none _
   | refine LeO.ite ?_ ?_
   | refine LeO.bind ?_ (fun _ => ?_)
  ·intro y0 y1 y2 y3 y4 y5 y6 y7 y8 y9
   unfold laws_FnColourings.l1
   repeat' first
   | (with_reducible exact ih0 _ _ _ _)
   | (with_reducible exact ih1 _ _ _ _ _ _ _)
   | (with_reducible exact ih2 _ _ _ _ _ _ _ _ _)
   | (with_reducible exact ih3 _ _ _ _ _)
   | (with_reducible exact ih4 _ _ _ _ _)
   | (with_reducible exact ih5 _ _ _ _ _)
   | (with_reducible exact ih6 _ _ _ _ _ _ _ _)
   | (with_reducible exact ih7 _ _ _ _ _ _ _ _ _ _)
   | (with_reducible exact impl_ColouringPolynomial.mono _ _)
   | (with_reducible exact impl_CountColourings.mono _ _ _)
   | (with_reducible exact impl_LeastColours.mono _ _)
   | (with_reducible exact laws_likeInts.mono _ _ _)
   | (with_reducible exact spec_ColouringPolynomial.mono _ _)
   | (with_reducible exact spec_CountColourings.mono _ _ _)
   | (with_reducible exact spec_DrawColouringPolynomial.mono _ _)
   | (with_reducible exact spec_DrawCountColourings.mono _ _)
   | (with_reducible exact spec_DrawLeastColours.mono _ _)
   | (with_reducible exact spec_LeastColours.mono _ _)
   | (with_reducible exact LeO.refl _)
   | (with_reducible exact LeO.none _)
   | (with_reducible refine LeO.ite ?_ ?_)
   | (with_reducible refine LeO.bind ?_ (fun _ => ?_))
   | exact ih0 _ _ _ _
   | exact ih1 _ _ _ _ _ _ _
   | exact ih2 _ _ _ _ _ _ _ _ _
   | exact ih3 _ _ _ _ _
   | exact ih4 _ _ _ _ _
   | exact ih5 _ _ _ _ _
   | exact ih6 _ _ _ _ _ _ _ _
   | exact ih7 _ _ _ _ _ _ _ _ _ _
   | exact impl_ColouringPolynomial.mono _ _
   | exact impl_CountColourings.mono _ _ _
   | exact impl_LeastColours.mono _ _
   | exact laws_likeInts.mono _ _ _
   | exact spec_ColouringPolynomial.mono _ _
   | exact spec_CountColourings.mono _ _ _
   | exact spec_DrawColouringPolynomial.mono _ _
   | exact spec_DrawCountColourings.mono _ _
   | exact spec_DrawLeastColours.mono _ _
   | exact spec_LeastColours.mono _ _
   | exact LeO.none _
   | refine LeO.ite ?_ ?_
   | refine LeO.bind ?_ (fun _ => ?_)
theorem laws_FnColourings.mono : ∀ a0 k, LeO (laws_FnColourings.f k a0) (laws_FnColourings.f (k + 1) a0) := by
 intro a0 k
 obtain ⟨ih0, ih1, ih2, ih3, ih4, ih5, ih6, ih7⟩ := laws_FnColourings.mono_l k
 unfold laws_FnColourings.f
 repeat' first
   | (with_reducible exact ih0 _ _ _ _)
   | (with_reducible exact ih1 _ _ _ _ _ _ _)
   | (with_reducible exact ih2 _ _ _ _ _ _ _ _ _)
   | (with_reducible exact ih3 _ _ _ _ _)
   | (with_reducible exact ih4 _ _ _ _ _)
   | (with_reducible exact ih5 _ _ _ _ _)
   | (with_reducible exact ih6 _ _ _ _ _ _ _ _)
   | (with_reducible exact ih7 _ _ _ _ _ _ _ _ _ _)
   | (with_reducible exact impl_ColouringPolynomial.mono _ _)
   | (with_reducible exact impl_CountColourings.mono _ _ _)
   | (with_reducible exact impl_LeastColours.mono _ _)
   | (with_reducible exact laws_likeInts.mono _ _ _)
   | (with_reducible exact spec_ColouringPolynomial.mono _ _)
   | (with_reducible exact spec_CountColourings.mono _ _ _)
   | (with_reducible exact spec_DrawColouringPolynomial.mono _ _)
   | (with_reducible exact spec_DrawCountColourings.mono _ _)
   | (with_reducible exact spec_DrawLeastColours.mono _ _)
   | (with_reducible exact spec_LeastColours.mono _ _)
   | (with_reducible exact LeO.refl _)
   | (with_reducible exact LeO.none _)
   | (with_reducible refine LeO.ite ?_ ?_)
   | (with_reducible refine LeO.bind ?_ (fun _ => ?_))
   | exact ih0 _ _ _ _
   | exact ih1 _ _ _ _ _ _ _
   | exact ih2 _ _ _ _ _ _ _ _ _
   | exact ih3 _ _ _ _ _
   | exact ih4 _ _ _ _ _
   | exact ih5 _ _ _ _ _
   | exact ih6 _ _ _ _ _ _ _ _
   | exact ih7 _ _ _ _ _ _ _ _ _ _
   | exact impl_ColouringPolynomial.mono _ _
   | exact impl_CountColourings.mono _ _ _
   | exact impl_LeastColours.mono _ _
   | exact laws_likeInts.mono _ _ _
   | exact spec_ColouringPolynomial.mono _ _
   | exact spec_CountColourings.mono _ _ _
   | exact spec_DrawColouringPolynomial.mono _ _
   | exact spec_DrawCountColourings.mono _ _
   | exact spec_DrawLeastColours.mono _ _
   | exact spec_LeastColours.mono _ _
   | exact LeO.none _
   | refine LeO.ite ?_ ?_
   | refine LeO.bind ?_ (fun _ => ?_)
set_option maxHeartbeats 8000000 in
set_option maxRecDepth 100000 in
theorem laws_FnColourings.calls (k : Nat) (A0 : Option Addr) (c0 : Nat) (l0 : List Int) (r : Bool) (w : World) (hr0 : Kd.C (Kd.int .u8) w A0 l0.length l0) (hc0 : l0.length ≤ c0) (h : laws_FnColourings.f k l0 = some r) :
  Calls Try.prog 11 #[.slice A0 l0.length c0] w fun e w' => e = .returned (.bool r) ∧ Below w.heap.size w w' := by
 have HR0 := Aside0.mk hr0
 have HC0 := Aside0.mk hc0
 clear hr0 hc0
 have HB := Aside0.mk (Below.refl w.heap.size w)
 have H : ((laws_big.f l0).bind fun t111001 => (if t111001 = true then (some true) else ((spec_DrawCountColourings.f k l0).bind fun bt111002 => ((impl_CountColourings.f k bt111002.1 bt111002.2).bind fun bt111006 => ((spec_CountColourings.f k bt111002.1 bt111002.2).bind fun bt111008 => (if bt111006.2 = bt111008.2 then (laws_FnColourings.j0 k l0 bt111006.1 bt111006.2 (bt111006.1 != bt111008.1)) else (laws_FnColourings.j0 k l0 bt111006.1 bt111006.2 true))))))) = some r := h
 clear h
 replace H := Option.bind_eq_some_iff.mp H
 obtain ⟨t111001, A20, H⟩ := H
 replace H : (if t111001 = true then (some true) else ((spec_DrawCountColourings.f k l0).bind fun bt111002 => ((impl_CountColourings.f k bt111002.1 bt111002.2).bind fun bt111006 => ((spec_CountColourings.f k bt111002.1 bt111002.2).bind fun bt111008 => (if bt111006.2 = bt111008.2 then (laws_FnColourings.j0 k l0 bt111006.1 bt111006.2 (bt111006.1 != bt111008.1)) else (laws_FnColourings.j0 k l0 bt111006.1 bt111006.2 true)))))) = some r := H
 have A2 := Aside0.mk A20
 clear A20
 by_cases c3 : t111001 = true
 ·subst c3
  have H1 : (some true) = some r := by rw [if_pos rfl] at H; exact H
  clear H
  have H := H1
  clear H1
  obtain rfl := Option.some.inj H
  go_enter Try.func11, Try.ntmps11
  go_wp2_with (first | ((with_reducible refine gate_callee (f := 49) rfl ?_); refine goesL_ (some 29) rfl rfl Try.func49 (by kernel_rfl) rfl #[.slice A0 l0.length c0] rfl (by (try simp only [List.map_toArray, List.map_cons, List.map_nil]); first | done | rfl | (simp only [List.length_drop, List.length_take]; rfl)) ?_; (with_reducible refine (laws_big.calls _ _ l0 true _ ?side1 ?side2 A2.out).mono ?_); (case side1 => repeat (first | exact HR0.out | (with_reducible refine Kd.C_alloc ?_ _) | (with_reducible refine Kd.C_drewN ?_ _) | (with_reducible refine Kd.C_drew ?_))); (case side2 => exact HC0.out); rintro e w' ⟨rfl, ⟨nd, rfl⟩⟩; refine ⟨_, rfl, ?_⟩))
  go_ret
  exact ⟨by first | rfl | (simp [errW_none, errW_some] <;> rfl) | (simp [*, errW_none, errW_some] <;> rfl), by repeat (first | (with_reducible first | exact HB.out | apply below_alloc | apply pw_below_drewN | apply below_drew1) | exact HB.out)⟩
 ·replace c3 := Bool.eq_false_iff.mpr c3
  subst c3
  have H1 : ((spec_DrawCountColourings.f k l0).bind fun bt111002 => ((impl_CountColourings.f k bt111002.1 bt111002.2).bind fun bt111006 => ((spec_CountColourings.f k bt111002.1 bt111002.2).bind fun bt111008 => (if bt111006.2 = bt111008.2 then (laws_FnColourings.j0 k l0 bt111006.1 bt111006.2 (bt111006.1 != bt111008.1)) else (laws_FnColourings.j0 k l0 bt111006.1 bt111006.2 true))))) = some r := by rw [if_neg (show ¬ (false = true) by decide)] at H; exact H
  clear H
  have H := H1
  clear H1
  replace H := Option.bind_eq_some_iff.mp H
  obtain ⟨⟨t111002, t111003⟩, A40, H⟩ := H
  replace H : ((impl_CountColourings.f k t111002 t111003).bind fun bt111006 => ((spec_CountColourings.f k t111002 t111003).bind fun bt111008 => (if bt111006.2 = bt111008.2 then (laws_FnColourings.j0 k l0 bt111006.1 bt111006.2 (bt111006.1 != bt111008.1)) else (laws_FnColourings.j0 k l0 bt111006.1 bt111006.2 true)))) = some r := H
  have A4 := Aside0.mk A40
  clear A40
  replace H := Option.bind_eq_some_iff.mp H
  obtain ⟨⟨t111006, t111007⟩, A50, H⟩ := H
  replace H : ((spec_CountColourings.f k t111002 t111003).bind fun bt111008 => (if t111007 = bt111008.2 then (laws_FnColourings.j0 k l0 t111006 t111007 (t111006 != bt111008.1)) else (laws_FnColourings.j0 k l0 t111006 t111007 true))) = some r := H
  have A5 := Aside0.mk A50
  clear A50
  replace H := Option.bind_eq_some_iff.mp H
  obtain ⟨⟨t111008, t111009⟩, A60, H⟩ := H
  replace H : (if t111007 = t111009 then (laws_FnColourings.j0 k l0 t111006 t111007 (t111006 != t111008)) else (laws_FnColourings.j0 k l0 t111006 t111007 true)) = some r := H
  have A6 := Aside0.mk A60
  clear A60
  have HC7 := Aside0.mk H
  clear H
  go_enter Try.func11, Try.ntmps11
  go_upto_region 6 with (first | ((with_reducible refine gate_callee (f := 49) rfl ?_); refine goesL_ (some 29) rfl rfl Try.func49 (by kernel_rfl) rfl #[.slice A0 l0.length c0] rfl (by (try simp only [List.map_toArray, List.map_cons, List.map_nil]); first | done | rfl | (simp only [List.length_drop, List.length_take]; rfl)) ?_; (with_reducible refine (laws_big.calls _ _ l0 false _ ?side1 ?side2 A2.out).mono ?_); (case side1 => repeat (first | exact HR0.out | (with_reducible refine Kd.C_alloc ?_ _) | (with_reducible refine Kd.C_drewN ?_ _) | (with_reducible refine Kd.C_drew ?_))); (case side2 => exact HC0.out); rintro e w' ⟨rfl, ⟨nd, rfl⟩⟩; refine ⟨_, rfl, ?_⟩) | ((with_reducible refine gate_callee (f := 50) rfl ?_); refine goesL_ (some 32) rfl rfl Try.func50 (by kernel_rfl) rfl #[.slice A0 l0.length c0] rfl (by (try simp only [List.map_toArray, List.map_cons, List.map_nil]); first | done | rfl | (simp only [List.length_drop, List.length_take]; rfl)) ?_; (with_reducible refine (spec_DrawCountColourings.calls k _ _ l0 t111002 t111003 _ ?side1 ?side2 A4.out).mono ?_); (case side1 => repeat (first | exact HR0.out | (with_reducible refine Kd.C_alloc ?_ _) | (with_reducible refine Kd.C_drewN ?_ _) | (with_reducible refine Kd.C_drew ?_))); (case side2 => exact HC0.out); rintro e w8 ⟨v111004, rfl, ho0, hb⟩; refine ⟨_, rfl, ?_⟩; have n0_ := Aside0.mk (Kd.R_lower ho0 (below_size (by repeat (first | (with_reducible first | exact HB.out | apply below_alloc | apply pw_below_drewN | apply below_drew1) | exact HB.out)))); have n1_ := Aside0.mk (below_step (by repeat (first | (with_reducible first | exact HB.out | apply below_alloc | apply pw_below_drewN | apply below_drew1) | exact HB.out)) hb); clear HB; have HO111005 := n0_; have HB := n1_; clear n0_ n1_; (try clear hb); (try clear hb2); (try clear hk); (try clear hi); (try clear ho0); obtain ⟨Ao9, co9, eo9⟩ := Kd.R_slice HO111005.out; subst eo9) | ((with_reducible refine gate_callee (f := 41) rfl ?_); refine goesL_ (some 38) rfl rfl Try.func41 (by kernel_rfl) rfl #[.slice Ao9 t111002.length co9, .int .i64 t111003] rfl (by (try simp only [List.map_toArray, List.map_cons, List.map_nil]); first | done | rfl | (simp only [List.length_drop, List.length_take]; rfl)) ?_; (with_reducible refine (impl_CountColourings.calls k _ _ t111002 t111003 t111006 t111007 _ ?side1 ?side2 A5.out).mono ?_); (case side1 => repeat (first | exact (Kd.R_reads' HO111005.out).2.2 | (with_reducible refine Kd.C_alloc ?_ _) | (with_reducible refine Kd.C_drewN ?_ _) | (with_reducible refine Kd.C_drew ?_))); (case side2 => exact (Kd.R_reads' HO111005.out).2.1); rintro e w10 ⟨rfl, hb⟩; refine ⟨_, rfl, ?_⟩; have n0_ := Aside0.mk (Kd.R_below (by (with_reducible repeat (first | apply Kd.R_alloc | apply Kd.R_drewN | apply Kd.R_drew)); exact HO111005.out) hb); have n1_ := Aside0.mk (below_step (by repeat (first | (with_reducible first | exact HB.out | apply below_alloc | apply pw_below_drewN | apply below_drew1) | exact HB.out)) hb); clear HO111005; clear HB; have HO111005 := n0_; have HB := n1_; clear n0_ n1_; (try clear hb); (try clear hb2); (try clear hk); (try clear hi)) | ((with_reducible refine gate_callee (f := 40) rfl ?_); refine goesL_ (some 44) rfl rfl Try.func40 (by kernel_rfl) rfl #[.slice Ao9 t111002.length co9, .int .i64 t111003] rfl (by (try simp only [List.map_toArray, List.map_cons, List.map_nil]); first | done | rfl | (simp only [List.length_drop, List.length_take]; rfl)) ?_; (with_reducible refine (spec_CountColourings.calls k _ _ t111002 t111003 t111008 t111009 _ ?side1 ?side2 A6.out).mono ?_); (case side1 => repeat (first | exact (Kd.R_reads' HO111005.out).2.2 | (with_reducible refine Kd.C_alloc ?_ _) | (with_reducible refine Kd.C_drewN ?_ _) | (with_reducible refine Kd.C_drew ?_))); (case side2 => exact (Kd.R_reads' HO111005.out).2.1); rintro e w11 ⟨rfl, hb⟩; refine ⟨_, rfl, ?_⟩; have n0_ := Aside0.mk (Kd.R_below (by (with_reducible repeat (first | apply Kd.R_alloc | apply Kd.R_drewN | apply Kd.R_drew)); exact HO111005.out) hb); have n1_ := Aside0.mk (below_step (by repeat (first | (with_reducible first | exact HB.out | apply below_alloc | apply pw_below_drewN | apply below_drew1) | exact HB.out)) hb); clear HO111005; clear HB; have HO111005 := n0_; have HB := n1_; clear n0_ n1_; (try clear hb); (try clear hb2); (try clear hk); (try clear hi)))
  (try simp only [Act.put, List.setIfInBounds_toArray, List.set_cons_zero, List.set_cons_succ])
  go_cut [54] (fun v54 wc => ∃ (kq : Nat) (x54_6 : Bool), v54 = .bool x54_6 ∧ Aside0 (laws_FnColourings.j0 kq l0 t111006 t111007 x54_6 = some r) ∧ Aside0 (kq ≤ k) ∧ Aside0 (Below w.heap.size w wc))
  case first =>
   have H := HC7.out
   clear HC7
   by_cases c12 : t111007 = t111009
   ·rw [if_pos c12] at H
    have c12b0 : (t111007 == t111009) = true := beq_iff_eq.mpr c12
    have c12b1 : (t111007 != t111009) = false := bne_eq_false_iff_eq.mpr c12
    clear c12
    (first | rw [c12b0] | (simp only [i64_w, i32_w]; rw [c12b0]) | skip)
    have H' := Aside0.mk H
    clear H
    go_wp2
    go_meet
    case rel => exact ⟨_, ((t111006 != t111008)), (by first | rfl | (simp; done) | (simp [*]; done)), H', ⟨by first | omega | exact Nat.le_refl _⟩, ⟨by repeat (first | (with_reducible first | exact HB.out | apply below_alloc | apply pw_below_drewN | apply below_drew1) | exact HB.out)⟩⟩
   ·rw [if_neg c12] at H
    have c12b0 : (t111007 == t111009) = false := beq_eq_false_iff_ne.mpr c12
    have c12b1 : (t111007 != t111009) = true := bne_iff_ne.mpr c12
    (first | rw [c12b0] | (simp only [i64_w, i32_w]; rw [c12b0]) | skip)
    have H' := Aside0.mk H
    clear H
    go_wp2
    go_meet
    case rel => exact ⟨_, (true), (by first | rfl | (simp; done) | (simp [*]; done)), H', ⟨by first | omega | exact Nat.le_refl _⟩, ⟨by repeat (first | (with_reducible first | exact HB.out | apply below_alloc | apply pw_below_drewN | apply below_drew1) | exact HB.out)⟩⟩
  case rest =>
   clear HC7
   try clear c1
   try clear p2
   try clear c3
   try clear c4
   try clear c5
   try clear c11
   try clear c12
   try clear c12b0
   try clear c12b1
   obtain ⟨kq, x54_6, rfl, HA, HJ6, HB⟩ := hcut
   cases kq with
   | zero => exact absurd HA.out (by simp [laws_FnColourings.j0])
   | succ kj6 =>
    have H := HA.out
    clear HA
    simp only [laws_FnColourings.j0] at H
    by_cases c13 : x54_6 = true
    ·subst c13
     have H1 : (some false) = some r := by rw [if_pos rfl] at H; exact H
     clear H
     have H := H1
     clear H1
     obtain rfl := Option.some.inj H
     go_wp2
     go_ret
     exact ⟨by first | rfl | (simp [errW_none, errW_some] <;> rfl) | (simp [*, errW_none, errW_some] <;> rfl), by repeat (first | (with_reducible first | exact HB.out | apply below_alloc | apply pw_below_drewN | apply below_drew1) | exact HB.out)⟩
    ·replace c13 := Bool.eq_false_iff.mpr c13
     subst c13
     have H1 : ((spec_DrawColouringPolynomial.f kj6 l0).bind fun t111010 => ((impl_ColouringPolynomial.f kj6 t111010).bind fun bt111013 => ((spec_ColouringPolynomial.f kj6 t111010).bind fun bt111017 => (if bt111013.2 = bt111017.2 then ((laws_likeInts.f kj6 bt111013.1 bt111017.1).bind fun t111021 => (laws_FnColourings.j1 kj6 l0 t111006 t111007 t111010 bt111013.1 bt111013.2 (!t111021))) else (laws_FnColourings.j1 kj6 l0 t111006 t111007 t111010 bt111013.1 bt111013.2 true))))) = some r := by rw [if_neg (show ¬ (false = true) by decide)] at H; exact H
     clear H
     have H := H1
     clear H1
     replace H := Option.bind_eq_some_iff.mp H
     obtain ⟨t111010, A140, H⟩ := H
     replace H : ((impl_ColouringPolynomial.f kj6 t111010).bind fun bt111013 => ((spec_ColouringPolynomial.f kj6 t111010).bind fun bt111017 => (if bt111013.2 = bt111017.2 then ((laws_likeInts.f kj6 bt111013.1 bt111017.1).bind fun t111021 => (laws_FnColourings.j1 kj6 l0 t111006 t111007 t111010 bt111013.1 bt111013.2 (!t111021))) else (laws_FnColourings.j1 kj6 l0 t111006 t111007 t111010 bt111013.1 bt111013.2 true)))) = some r := H
     have A14 := Aside0.mk A140
     clear A140
     replace H := Option.bind_eq_some_iff.mp H
     obtain ⟨⟨t111013, t111014⟩, A150, H⟩ := H
     replace H : ((spec_ColouringPolynomial.f kj6 t111010).bind fun bt111017 => (if t111014 = bt111017.2 then ((laws_likeInts.f kj6 t111013 bt111017.1).bind fun t111021 => (laws_FnColourings.j1 kj6 l0 t111006 t111007 t111010 t111013 t111014 (!t111021))) else (laws_FnColourings.j1 kj6 l0 t111006 t111007 t111010 t111013 t111014 true))) = some r := H
     have A15 := Aside0.mk A150
     clear A150
     replace H := Option.bind_eq_some_iff.mp H
     obtain ⟨⟨t111017, t111018⟩, A160, H⟩ := H
     replace H : (if t111014 = t111018 then ((laws_likeInts.f kj6 t111013 t111017).bind fun t111021 => (laws_FnColourings.j1 kj6 l0 t111006 t111007 t111010 t111013 t111014 (!t111021))) else (laws_FnColourings.j1 kj6 l0 t111006 t111007 t111010 t111013 t111014 true)) = some r := H
     have A16 := Aside0.mk A160
     clear A160
     have HC17 := Aside0.mk H
     clear H
     go_upto_region 11 with (first | ((with_reducible refine gate_callee (f := 51) rfl ?_); refine goesL_ (some 56) rfl rfl Try.func51 (by kernel_rfl) rfl #[.slice A0 l0.length c0] rfl (by (try simp only [List.map_toArray, List.map_cons, List.map_nil]); first | done | rfl | (simp only [List.length_drop, List.length_take]; rfl)) ?_; (with_reducible refine (spec_DrawColouringPolynomial.calls kj6 _ _ l0 t111010 _ ?side1 ?side2 A14.out).mono ?_); (case side1 => repeat (first | exact (Kd.C_below HR0.out HB.out) | (with_reducible refine Kd.C_alloc ?_ _) | (with_reducible refine Kd.C_drewN ?_ _) | (with_reducible refine Kd.C_drew ?_))); (case side2 => exact HC0.out); rintro e w18 ⟨v111011, rfl, ho0, hb⟩; refine ⟨_, rfl, ?_⟩; have n0_ := Aside0.mk (Kd.R_lower ho0 (below_size (by repeat (first | (with_reducible first | exact HB.out | apply below_alloc | apply pw_below_drewN | apply below_drew1) | exact HB.out)))); have n1_ := Aside0.mk (below_step (by repeat (first | (with_reducible first | exact HB.out | apply below_alloc | apply pw_below_drewN | apply below_drew1) | exact HB.out)) hb); clear HB; have HO111012 := n0_; have HB := n1_; clear n0_ n1_; (try clear hb); (try clear hb2); (try clear hk); (try clear hi); (try clear ho0); obtain ⟨Ao19, co19, eo19⟩ := Kd.R_slice HO111012.out; subst eo19) | ((with_reducible refine gate_callee (f := 36) rfl ?_); refine goesL_ (some 59) rfl rfl Try.func36 (by kernel_rfl) rfl #[.slice Ao19 t111010.length co19] rfl (by (try simp only [List.map_toArray, List.map_cons, List.map_nil]); first | done | rfl | (simp only [List.length_drop, List.length_take]; rfl)) ?_; (with_reducible refine (impl_ColouringPolynomial.calls kj6 _ _ t111010 t111013 t111014 _ ?side1 ?side2 A15.out).mono ?_); (case side1 => repeat (first | exact (Kd.R_reads' HO111012.out).2.2 | (with_reducible refine Kd.C_alloc ?_ _) | (with_reducible refine Kd.C_drewN ?_ _) | (with_reducible refine Kd.C_drew ?_))); (case side2 => exact (Kd.R_reads' HO111012.out).2.1); rintro e w20 ⟨v111015, rfl, ho0, hb⟩; refine ⟨_, rfl, ?_⟩; have n0_ := Aside0.mk (Kd.R_elder' (by (with_reducible repeat (first | apply Kd.R_alloc | apply Kd.R_drewN | apply Kd.R_drew)); exact HO111012.out) (Kd.R_base ho0) hb); have n1_ := Aside0.mk (Kd.R_lower (Kd.R_new' ho0 (Kd.R_lt (by (with_reducible repeat (first | apply Kd.R_alloc | apply Kd.R_drewN | apply Kd.R_drew)); exact HO111012.out))) (below_size (by repeat (first | (with_reducible first | exact HB.out | apply below_alloc | apply pw_below_drewN | apply below_drew1) | exact HB.out)))); have n2_ := Aside0.mk (below_step (by repeat (first | (with_reducible first | exact HB.out | apply below_alloc | apply pw_below_drewN | apply below_drew1) | exact HB.out)) hb); clear HO111012; clear HB; have HO111012 := n0_; have HO111016 := n1_; have HB := n2_; clear n0_ n1_ n2_; (try clear hb); (try clear hb2); (try clear hk); (try clear hi); (try clear ho0)) | ((with_reducible refine gate_callee (f := 34) rfl ?_); refine goesL_ (some 64) rfl rfl Try.func34 (by kernel_rfl) rfl #[.slice Ao19 t111010.length co19] rfl (by (try simp only [List.map_toArray, List.map_cons, List.map_nil]); first | done | rfl | (simp only [List.length_drop, List.length_take]; rfl)) ?_; (with_reducible refine (spec_ColouringPolynomial.calls kj6 _ _ t111010 t111017 t111018 _ ?side1 ?side2 A16.out).mono ?_); (case side1 => repeat (first | exact (Kd.R_reads' HO111012.out).2.2 | (with_reducible refine Kd.C_alloc ?_ _) | (with_reducible refine Kd.C_drewN ?_ _) | (with_reducible refine Kd.C_drew ?_))); (case side2 => exact (Kd.R_reads' HO111012.out).2.1); rintro e w21 ⟨v111019, rfl, ho0, hb⟩; refine ⟨_, rfl, ?_⟩; have n0_ := Aside0.mk (Kd.R_elder' (by (with_reducible repeat (first | apply Kd.R_alloc | apply Kd.R_drewN | apply Kd.R_drew)); exact HO111012.out) (Kd.R_base ho0) hb); have n1_ := Aside0.mk (Kd.R_elder' (by (with_reducible repeat (first | apply Kd.R_alloc | apply Kd.R_drewN | apply Kd.R_drew)); exact HO111016.out) (Kd.R_base ho0) hb); have n2_ := Aside0.mk (Kd.R_lower (Kd.R_new' (Kd.R_new' ho0 (Kd.R_lt (by (with_reducible repeat (first | apply Kd.R_alloc | apply Kd.R_drewN | apply Kd.R_drew)); exact HO111012.out))) (Kd.R_lt (by (with_reducible repeat (first | apply Kd.R_alloc | apply Kd.R_drewN | apply Kd.R_drew)); exact HO111016.out))) (below_size (by repeat (first | (with_reducible first | exact HB.out | apply below_alloc | apply pw_below_drewN | apply below_drew1) | exact HB.out)))); have n3_ := Aside0.mk (below_step (by repeat (first | (with_reducible first | exact HB.out | apply below_alloc | apply pw_below_drewN | apply below_drew1) | exact HB.out)) hb); clear HO111012; clear HO111016; clear HB; have HO111012 := n0_; have HO111016 := n1_; have HO111020 := n2_; have HB := n3_; clear n0_ n1_ n2_ n3_; (try clear hb); (try clear hb2); (try clear hk); (try clear hi); (try clear ho0)))
     (try simp only [Act.put, List.setIfInBounds_toArray, List.set_cons_zero, List.set_cons_succ])
     go_cut [75] (fun v75 wc => ∃ (kq : Nat) (x75_16 : Bool), v75 = .bool x75_16 ∧ Aside0 (laws_FnColourings.j1 kq l0 t111006 t111007 t111010 t111013 t111014 x75_16 = some r) ∧ Aside0 (kq ≤ kj6) ∧ Aside0 (Kd.R (Kd.int .i64) 2 wc w.heap.size (fun k_ => some k_ ≠ (v111015 : Value).ownBlock) (.slice Ao19 t111010.length co19) t111010) ∧ Aside0 (Kd.R (Kd.int .i64) 2 wc w.heap.size (fun k_ => some k_ ≠ ((.slice Ao19 t111010.length co19) : Value).ownBlock) v111015 t111013) ∧ Aside0 (Below w.heap.size w wc))
     case first =>
      have H := HC17.out
      clear HC17
      by_cases c22 : t111014 = t111018
      ·rw [if_pos c22] at H
       have c22b0 : (t111014 == t111018) = true := beq_iff_eq.mpr c22
       have c22b1 : (t111014 != t111018) = false := bne_eq_false_iff_eq.mpr c22
       clear c22
       (first | rw [c22b0] | (simp only [i64_w, i32_w]; rw [c22b0]) | skip)
       replace H := Option.bind_eq_some_iff.mp H
       obtain ⟨t111021, A230, H⟩ := H
       replace H : (laws_FnColourings.j1 kj6 l0 t111006 t111007 t111010 t111013 t111014 (!t111021)) = some r := H
       have A23 := Aside0.mk A230
       clear A230
       have H' := Aside0.mk H
       clear H
       obtain ⟨Ao24, co24, eo24⟩ := Kd.R_slice HO111016.out
       subst eo24
       obtain ⟨Ao25, co25, eo25⟩ := Kd.R_slice HO111020.out
       subst eo25
       go_wp2_with (first | (go_at_call 52; (with_reducible refine (laws_likeInts.calls kj6 _ _ t111013 _ _ t111017 t111021 _ ?side1 ?side2 ?side3 ?side4 A23.out).mono ?_); (case side1 => repeat (first | exact (Kd.R_reads' HO111016.out).2.2 | (with_reducible refine Kd.C_alloc ?_ _) | (with_reducible refine Kd.C_drewN ?_ _) | (with_reducible refine Kd.C_drew ?_))); (case side2 => exact (Kd.R_reads' HO111016.out).2.1); (case side3 => repeat (first | exact (Kd.R_reads' HO111020.out).2.2 | (with_reducible refine Kd.C_alloc ?_ _) | (with_reducible refine Kd.C_drewN ?_ _) | (with_reducible refine Kd.C_drew ?_))); (case side4 => exact (Kd.R_reads' HO111020.out).2.1); rintro e w' ⟨rfl, ⟨nd, rfl⟩⟩))
       go_meet
       case rel => exact ⟨_, (!t111021), (by first | rfl | (simp; done) | (simp [*]; done)), H', ⟨by have := HJ6.out; first | omega | exact Nat.le_refl _⟩, ⟨by (with_reducible repeat (first | apply Kd.R_alloc | apply Kd.R_drewN | apply Kd.R_drew)); exact Kd.R_mono HO111012.out (fun _ hk => hk.1.2)⟩, ⟨by (with_reducible repeat (first | apply Kd.R_alloc | apply Kd.R_drewN | apply Kd.R_drew)); exact Kd.R_mono HO111016.out (fun _ hk => hk.1.2)⟩, ⟨by repeat (first | (with_reducible first | exact HB.out | apply below_alloc | apply pw_below_drewN | apply below_drew1) | exact HB.out)⟩⟩
      ·rw [if_neg c22] at H
       have c22b0 : (t111014 == t111018) = false := beq_eq_false_iff_ne.mpr c22
       have c22b1 : (t111014 != t111018) = true := bne_iff_ne.mpr c22
       (first | rw [c22b0] | (simp only [i64_w, i32_w]; rw [c22b0]) | skip)
       have H' := Aside0.mk H
       clear H
       go_wp2
       go_meet
       case rel => exact ⟨_, (true), (by first | rfl | (simp; done) | (simp [*]; done)), H', ⟨by have := HJ6.out; first | omega | exact Nat.le_refl _⟩, ⟨by (with_reducible repeat (first | apply Kd.R_alloc | apply Kd.R_drewN | apply Kd.R_drew)); exact Kd.R_mono HO111012.out (fun _ hk => hk.1.2)⟩, ⟨by (with_reducible repeat (first | apply Kd.R_alloc | apply Kd.R_drewN | apply Kd.R_drew)); exact Kd.R_mono HO111016.out (fun _ hk => hk.1.2)⟩, ⟨by repeat (first | (with_reducible first | exact HB.out | apply below_alloc | apply pw_below_drewN | apply below_drew1) | exact HB.out)⟩⟩
     case rest =>
      clear HC17
      try clear c1
      try clear c2
      try clear p2
      try clear c3
      try clear c4
      try clear c5
      try clear c11
      try clear c12
      try clear c12b0
      try clear c12b1
      try clear c13
      try clear c22
      try clear c22b0
      try clear c22b1
      try clear p2
      obtain ⟨kq, x75_16, rfl, HA, HJ16, HO_9, HO_10, HB⟩ := hcut
      cases kq with
      | zero => exact absurd HA.out (by simp [laws_FnColourings.j1])
      | succ kj16 =>
       have H := HA.out
       clear HA
       simp only [laws_FnColourings.j1] at H
       by_cases c26 : x75_16 = true
       ·subst c26
        have H1 : (some false) = some r := by rw [if_pos rfl] at H; exact H
        clear H
        have H := H1
        clear H1
        obtain rfl := Option.some.inj H
        go_wp2
        go_ret
        exact ⟨by first | rfl | (simp [errW_none, errW_some] <;> rfl) | (simp [*, errW_none, errW_some] <;> rfl), by repeat (first | (with_reducible first | exact HB.out | apply below_alloc | apply pw_below_drewN | apply below_drew1) | exact HB.out)⟩
       ·replace c26 := Bool.eq_false_iff.mpr c26
        subst c26
        have H1 : ((spec_DrawLeastColours.f kj16 l0).bind fun t111022 => ((impl_LeastColours.f kj16 t111022).bind fun bt111025 => ((spec_LeastColours.f kj16 t111022).bind fun bt111027 => (if bt111025.2 = bt111027.2 then (laws_FnColourings.j2 kj16 t111006 t111007 t111010 t111013 t111014 t111022 bt111025.1 bt111025.2 (bt111025.1 != bt111027.1)) else (laws_FnColourings.j2 kj16 t111006 t111007 t111010 t111013 t111014 t111022 bt111025.1 bt111025.2 true))))) = some r := by rw [if_neg (show ¬ (false = true) by decide)] at H; exact H
        clear H
        have H := H1
        clear H1
        replace H := Option.bind_eq_some_iff.mp H
        obtain ⟨t111022, A270, H⟩ := H
        replace H : ((impl_LeastColours.f kj16 t111022).bind fun bt111025 => ((spec_LeastColours.f kj16 t111022).bind fun bt111027 => (if bt111025.2 = bt111027.2 then (laws_FnColourings.j2 kj16 t111006 t111007 t111010 t111013 t111014 t111022 bt111025.1 bt111025.2 (bt111025.1 != bt111027.1)) else (laws_FnColourings.j2 kj16 t111006 t111007 t111010 t111013 t111014 t111022 bt111025.1 bt111025.2 true)))) = some r := H
        have A27 := Aside0.mk A270
        clear A270
        replace H := Option.bind_eq_some_iff.mp H
        obtain ⟨⟨t111025, t111026⟩, A280, H⟩ := H
        replace H : ((spec_LeastColours.f kj16 t111022).bind fun bt111027 => (if t111026 = bt111027.2 then (laws_FnColourings.j2 kj16 t111006 t111007 t111010 t111013 t111014 t111022 t111025 t111026 (t111025 != bt111027.1)) else (laws_FnColourings.j2 kj16 t111006 t111007 t111010 t111013 t111014 t111022 t111025 t111026 true))) = some r := H
        have A28 := Aside0.mk A280
        clear A280
        replace H := Option.bind_eq_some_iff.mp H
        obtain ⟨⟨t111027, t111028⟩, A290, H⟩ := H
        replace H : (if t111026 = t111028 then (laws_FnColourings.j2 kj16 t111006 t111007 t111010 t111013 t111014 t111022 t111025 t111026 (t111025 != t111027)) else (laws_FnColourings.j2 kj16 t111006 t111007 t111010 t111013 t111014 t111022 t111025 t111026 true)) = some r := H
        have A29 := Aside0.mk A290
        clear A290
        have HC30 := Aside0.mk H
        clear H
        go_upto_region 16 with (first | ((with_reducible refine gate_callee (f := 53) rfl ?_); refine goesL_ (some 77) rfl rfl Try.func53 (by kernel_rfl) rfl #[.slice A0 l0.length c0] rfl (by (try simp only [List.map_toArray, List.map_cons, List.map_nil]); first | done | rfl | (simp only [List.length_drop, List.length_take]; rfl)) ?_; (with_reducible refine (spec_DrawLeastColours.calls kj16 _ _ l0 t111022 _ ?side1 ?side2 A27.out).mono ?_); (case side1 => repeat (first | exact (Kd.C_below HR0.out HB.out) | (with_reducible refine Kd.C_alloc ?_ _) | (with_reducible refine Kd.C_drewN ?_ _) | (with_reducible refine Kd.C_drew ?_))); (case side2 => exact HC0.out); rintro e w31 ⟨v111023, rfl, ho0, hb⟩; refine ⟨_, rfl, ?_⟩; have n0_ := Aside0.mk (Kd.R_elder' (by (with_reducible repeat (first | apply Kd.R_alloc | apply Kd.R_drewN | apply Kd.R_drew)); exact HO_9.out) (Kd.R_base ho0) hb); have n1_ := Aside0.mk (Kd.R_elder' (by (with_reducible repeat (first | apply Kd.R_alloc | apply Kd.R_drewN | apply Kd.R_drew)); exact HO_10.out) (Kd.R_base ho0) hb); have n2_ := Aside0.mk (Kd.R_lower (Kd.R_new' (Kd.R_new' ho0 (Kd.R_lt (by (with_reducible repeat (first | apply Kd.R_alloc | apply Kd.R_drewN | apply Kd.R_drew)); exact HO_9.out))) (Kd.R_lt (by (with_reducible repeat (first | apply Kd.R_alloc | apply Kd.R_drewN | apply Kd.R_drew)); exact HO_10.out))) (below_size (by repeat (first | (with_reducible first | exact HB.out | apply below_alloc | apply pw_below_drewN | apply below_drew1) | exact HB.out)))); have n3_ := Aside0.mk (below_step (by repeat (first | (with_reducible first | exact HB.out | apply below_alloc | apply pw_below_drewN | apply below_drew1) | exact HB.out)) hb); clear HO_9; clear HO_10; clear HB; have HO_9 := n0_; have HO_10 := n1_; have HO111024 := n2_; have HB := n3_; clear n0_ n1_ n2_ n3_; (try clear hb); (try clear hb2); (try clear hk); (try clear hi); (try clear ho0); obtain ⟨Ao32, co32, eo32⟩ := Kd.R_slice HO111024.out; subst eo32) | ((with_reducible refine gate_callee (f := 54) rfl ?_); refine goesL_ (some 80) rfl rfl Try.func54 (by kernel_rfl) rfl #[.slice Ao32 t111022.length co32] rfl (by (try simp only [List.map_toArray, List.map_cons, List.map_nil]); first | done | rfl | (simp only [List.length_drop, List.length_take]; rfl)) ?_; (with_reducible refine (impl_LeastColours.calls kj16 _ _ t111022 t111025 t111026 _ ?side1 ?side2 A28.out).mono ?_); (case side1 => repeat (first | exact (Kd.R_reads' HO111024.out).2.2 | (with_reducible refine Kd.C_alloc ?_ _) | (with_reducible refine Kd.C_drewN ?_ _) | (with_reducible refine Kd.C_drew ?_))); (case side2 => exact (Kd.R_reads' HO111024.out).2.1); rintro e w33 ⟨rfl, hb⟩; refine ⟨_, rfl, ?_⟩; have n0_ := Aside0.mk (Kd.R_below (by (with_reducible repeat (first | apply Kd.R_alloc | apply Kd.R_drewN | apply Kd.R_drew)); exact HO_9.out) hb); have n1_ := Aside0.mk (Kd.R_below (by (with_reducible repeat (first | apply Kd.R_alloc | apply Kd.R_drewN | apply Kd.R_drew)); exact HO_10.out) hb); have n2_ := Aside0.mk (Kd.R_below (by (with_reducible repeat (first | apply Kd.R_alloc | apply Kd.R_drewN | apply Kd.R_drew)); exact HO111024.out) hb); have n3_ := Aside0.mk (below_step (by repeat (first | (with_reducible first | exact HB.out | apply below_alloc | apply pw_below_drewN | apply below_drew1) | exact HB.out)) hb); clear HO_9; clear HO_10; clear HO111024; clear HB; have HO_9 := n0_; have HO_10 := n1_; have HO111024 := n2_; have HB := n3_; clear n0_ n1_ n2_ n3_; (try clear hb); (try clear hb2); (try clear hk); (try clear hi)) | ((with_reducible refine gate_callee (f := 55) rfl ?_); refine goesL_ (some 85) rfl rfl Try.func55 (by kernel_rfl) rfl #[.slice Ao32 t111022.length co32] rfl (by (try simp only [List.map_toArray, List.map_cons, List.map_nil]); first | done | rfl | (simp only [List.length_drop, List.length_take]; rfl)) ?_; (with_reducible refine (spec_LeastColours.calls kj16 _ _ t111022 t111027 t111028 _ ?side1 ?side2 A29.out).mono ?_); (case side1 => repeat (first | exact (Kd.R_reads' HO111024.out).2.2 | (with_reducible refine Kd.C_alloc ?_ _) | (with_reducible refine Kd.C_drewN ?_ _) | (with_reducible refine Kd.C_drew ?_))); (case side2 => exact (Kd.R_reads' HO111024.out).2.1); rintro e w34 ⟨rfl, hb⟩; refine ⟨_, rfl, ?_⟩; have n0_ := Aside0.mk (Kd.R_below (by (with_reducible repeat (first | apply Kd.R_alloc | apply Kd.R_drewN | apply Kd.R_drew)); exact HO_9.out) hb); have n1_ := Aside0.mk (Kd.R_below (by (with_reducible repeat (first | apply Kd.R_alloc | apply Kd.R_drewN | apply Kd.R_drew)); exact HO_10.out) hb); have n2_ := Aside0.mk (Kd.R_below (by (with_reducible repeat (first | apply Kd.R_alloc | apply Kd.R_drewN | apply Kd.R_drew)); exact HO111024.out) hb); have n3_ := Aside0.mk (below_step (by repeat (first | (with_reducible first | exact HB.out | apply below_alloc | apply pw_below_drewN | apply below_drew1) | exact HB.out)) hb); clear HO_9; clear HO_10; clear HO111024; clear HB; have HO_9 := n0_; have HO_10 := n1_; have HO111024 := n2_; have HB := n3_; clear n0_ n1_ n2_ n3_; (try clear hb); (try clear hb2); (try clear hk); (try clear hi)))
        (try simp only [Act.put, List.setIfInBounds_toArray, List.set_cons_zero, List.set_cons_succ])
        go_cut [95] (fun v95 wc => ∃ (kq : Nat) (x95_29 : Bool), v95 = .bool x95_29 ∧ Aside0 (laws_FnColourings.j2 kq t111006 t111007 t111010 t111013 t111014 t111022 t111025 t111026 x95_29 = some r) ∧ Aside0 (kq ≤ kj16) ∧ Aside0 (Kd.R (Kd.int .i64) 2 wc w.heap.size (fun k_ => some k_ ≠ (v111015 : Value).ownBlock ∧ some k_ ≠ ((.slice Ao32 t111022.length co32) : Value).ownBlock) (.slice Ao19 t111010.length co19) t111010) ∧ Aside0 (Kd.R (Kd.int .i64) 2 wc w.heap.size (fun k_ => some k_ ≠ ((.slice Ao19 t111010.length co19) : Value).ownBlock ∧ some k_ ≠ ((.slice Ao32 t111022.length co32) : Value).ownBlock) v111015 t111013) ∧ Aside0 (Kd.R (Kd.int .i64) 2 wc w.heap.size (fun k_ => some k_ ≠ ((.slice Ao19 t111010.length co19) : Value).ownBlock ∧ some k_ ≠ (v111015 : Value).ownBlock) (.slice Ao32 t111022.length co32) t111022) ∧ Aside0 (Below w.heap.size w wc))
        case first =>
         have H := HC30.out
         clear HC30
         by_cases c35 : t111026 = t111028
         ·rw [if_pos c35] at H
          have c35b0 : (t111026 == t111028) = true := beq_iff_eq.mpr c35
          have c35b1 : (t111026 != t111028) = false := bne_eq_false_iff_eq.mpr c35
          clear c35
          (first | rw [c35b0] | (simp only [i64_w, i32_w]; rw [c35b0]) | skip)
          have H' := Aside0.mk H
          clear H
          go_wp2
          go_meet
          case rel => exact ⟨_, ((t111025 != t111027)), (by first | rfl | (simp; done) | (simp [*]; done)), H', ⟨by have := HJ6.out; have := HJ16.out; first | omega | exact Nat.le_refl _⟩, ⟨by (with_reducible repeat (first | apply Kd.R_alloc | apply Kd.R_drewN | apply Kd.R_drew)); exact HO_9.out⟩, ⟨by (with_reducible repeat (first | apply Kd.R_alloc | apply Kd.R_drewN | apply Kd.R_drew)); exact HO_10.out⟩, ⟨by (with_reducible repeat (first | apply Kd.R_alloc | apply Kd.R_drewN | apply Kd.R_drew)); exact Kd.R_mono HO111024.out (fun _ hk => ⟨hk.1.2, hk.2⟩)⟩, ⟨by repeat (first | (with_reducible first | exact HB.out | apply below_alloc | apply pw_below_drewN | apply below_drew1) | exact HB.out)⟩⟩
         ·rw [if_neg c35] at H
          have c35b0 : (t111026 == t111028) = false := beq_eq_false_iff_ne.mpr c35
          have c35b1 : (t111026 != t111028) = true := bne_iff_ne.mpr c35
          (first | rw [c35b0] | (simp only [i64_w, i32_w]; rw [c35b0]) | skip)
          have H' := Aside0.mk H
          clear H
          go_wp2
          go_meet
          case rel => exact ⟨_, (true), (by first | rfl | (simp; done) | (simp [*]; done)), H', ⟨by have := HJ6.out; have := HJ16.out; first | omega | exact Nat.le_refl _⟩, ⟨by (with_reducible repeat (first | apply Kd.R_alloc | apply Kd.R_drewN | apply Kd.R_drew)); exact HO_9.out⟩, ⟨by (with_reducible repeat (first | apply Kd.R_alloc | apply Kd.R_drewN | apply Kd.R_drew)); exact HO_10.out⟩, ⟨by (with_reducible repeat (first | apply Kd.R_alloc | apply Kd.R_drewN | apply Kd.R_drew)); exact Kd.R_mono HO111024.out (fun _ hk => ⟨hk.1.2, hk.2⟩)⟩, ⟨by repeat (first | (with_reducible first | exact HB.out | apply below_alloc | apply pw_below_drewN | apply below_drew1) | exact HB.out)⟩⟩
        case rest =>
         clear HC30
         try clear c1
         try clear c2
         try clear p2
         try clear c3
         try clear c4
         try clear c5
         try clear c11
         try clear c12
         try clear c12b0
         try clear c12b1
         try clear c13
         try clear c22
         try clear c22b0
         try clear c22b1
         try clear c26
         try clear c34
         try clear c35
         try clear c35b0
         try clear c35b1
         try clear p2
         obtain ⟨kq, x95_29, rfl, HA, HJ29, HO_9, HO_10, HO_14, HB⟩ := hcut
         cases kq with
         | zero => exact absurd HA.out (by simp [laws_FnColourings.j2])
         | succ kj29 =>
          have H := HA.out
          clear HA
          simp only [laws_FnColourings.j2] at H
          by_cases c36 : x95_29 = true
          ·subst c36
           have H1 : (some false) = some r := by rw [if_pos rfl] at H; exact H
           clear H
           have H := H1
           clear H1
           obtain rfl := Option.some.inj H
           go_wp2
           go_ret
           exact ⟨by first | rfl | (simp [errW_none, errW_some] <;> rfl) | (simp [*, errW_none, errW_some] <;> rfl), by repeat (first | (with_reducible first | exact HB.out | apply below_alloc | apply pw_below_drewN | apply below_drew1) | exact HB.out)⟩
          ·replace c36 := Bool.eq_false_iff.mpr c36
           subst c36
           have H1 : (if t111014 = 0 then (laws_FnColourings.l0 kj29 t111006 t111007 t111010 t111013 t111022 t111025 t111026 0) else (laws_FnColourings.j5 kj29 t111006 t111007 t111022 t111025 t111026)) = some r := by rw [if_neg (show ¬ (false = true) by decide)] at H; exact H
           clear H
           have H := H1
           clear H1
           have HC37 := Aside0.mk H
           clear H
           go_upto_if 97 with (fail)
           go_cut [] (fun wc => ∃ (kq : Nat), Aside0 (laws_FnColourings.j5 kq t111006 t111007 t111022 t111025 t111026 = some r) ∧ Aside0 (kq ≤ kj29) ∧ Aside0 (Kd.R (Kd.int .i64) 2 wc w.heap.size (fun _ => True) (.slice Ao32 t111022.length co32) t111022) ∧ Aside0 (Below w.heap.size w wc))
           case first =>
            have H := HC37.out
            clear HC37
            by_cases c38 : t111014 = 0
            ·rw [if_pos c38] at H
             have c38b0 : (t111014 == 0) = true := beq_iff_eq.mpr c38
             have c38b1 : (t111014 != 0) = false := bne_eq_false_iff_eq.mpr c38
             clear c38
             (first | rw [c38b0] | (simp only [i64_w, i32_w]; rw [c38b0]) | skip)
             have H' := Aside0.mk H
             clear H
             go_wp2
             go_loopg [19] kj29 (fun kq v19 w' => ∃ (x19_4 : Int), v19 = .int .i64 x19_4 ∧ Aside0 (laws_FnColourings.l0 kq t111006 t111007 t111010 t111013 t111022 t111025 t111026 x19_4 = some r) ∧ Aside0 (kq ≤ kj29) ∧ Aside0 (Kd.R (Kd.int .i64) 2 w' w.heap.size (fun k_ => some k_ ≠ (v111015 : Value).ownBlock ∧ some k_ ≠ ((.slice Ao32 t111022.length co32) : Value).ownBlock) (.slice Ao19 t111010.length co19) t111010) ∧ Aside0 (Kd.R (Kd.int .i64) 2 w' w.heap.size (fun k_ => some k_ ≠ ((.slice Ao19 t111010.length co19) : Value).ownBlock ∧ some k_ ≠ ((.slice Ao32 t111022.length co32) : Value).ownBlock) v111015 t111013) ∧ Aside0 (Kd.R (Kd.int .i64) 2 w' w.heap.size (fun k_ => some k_ ≠ ((.slice Ao19 t111010.length co19) : Value).ownBlock ∧ some k_ ≠ (v111015 : Value).ownBlock) (.slice Ao32 t111022.length co32) t111022) ∧ Aside0 (Below w.heap.size w w'))
             case atStart => exact ⟨(0), (by first | rfl | (simp; done) | (simp [*]; done)), H', ⟨Nat.le_refl _⟩, ⟨by (with_reducible repeat (first | apply Kd.R_alloc | apply Kd.R_drewN | apply Kd.R_drew)); exact HO_9.out⟩, ⟨by (with_reducible repeat (first | apply Kd.R_alloc | apply Kd.R_drewN | apply Kd.R_drew)); exact HO_10.out⟩, ⟨by (with_reducible repeat (first | apply Kd.R_alloc | apply Kd.R_drewN | apply Kd.R_drew)); exact HO_14.out⟩, ⟨by repeat (first | (with_reducible first | exact HB.out | apply below_alloc | apply pw_below_drewN | apply below_drew1) | exact HB.out)⟩⟩
             case round =>
              clear H'
              try clear c1
              try clear c2
              try clear p2
              try clear c3
              try clear c4
              try clear c5
              try clear c11
              try clear c12
              try clear c12b0
              try clear c12b1
              try clear c13
              try clear c22
              try clear c22b0
              try clear c22b1
              try clear c26
              try clear c34
              try clear c35
              try clear c35b0
              try clear c35b1
              try clear c36
              try clear c38
              try clear c38b0
              try clear c38b1
              try clear p2
              obtain ⟨x19_4, rfl, HA, HK4, HO_9, HO_10, HO_14, HB⟩ := hrel
              cases gk with
              | zero => exact absurd HA.out (by simp [laws_FnColourings.l0])
              | succ k4 =>
               have H := HA.out
               clear HA
               simp only [laws_FnColourings.l0] at H
               by_cases c39 : x19_4 ≤ 3
               ·rw [if_pos c39] at H
                have c39b0 : decide (x19_4 ≤ 3) = true := decide_eq_true c39
                clear c39
                have H' := Aside0.mk H
                clear H
                obtain ⟨Ao40, co40, eo40⟩ := Kd.R_slice HO_10.out
                subst eo40
                go_wp2
                go_loopg [20, 21] k4 (fun kq v20 v21 w' => ∃ (x20_5 : Int) (x21_5 : Int), v20 = .int .i64 x20_5 ∧ v21 = .int .i64 x21_5 ∧ Aside0 (laws_FnColourings.l1 kq t111006 t111007 t111010 t111013 t111022 t111025 t111026 x19_4 x20_5 x21_5 = some r) ∧ Aside0 (kq ≤ k4) ∧ Aside0 (Kd.R (Kd.int .i64) 2 w' w.heap.size (fun k_ => some k_ ≠ ((.slice Ao40 t111013.length co40) : Value).ownBlock ∧ some k_ ≠ ((.slice Ao32 t111022.length co32) : Value).ownBlock) (.slice Ao19 t111010.length co19) t111010) ∧ Aside0 (Kd.R (Kd.int .i64) 2 w' w.heap.size (fun k_ => some k_ ≠ ((.slice Ao19 t111010.length co19) : Value).ownBlock ∧ some k_ ≠ ((.slice Ao32 t111022.length co32) : Value).ownBlock) (.slice Ao40 t111013.length co40) t111013) ∧ Aside0 (Kd.R (Kd.int .i64) 2 w' w.heap.size (fun k_ => some k_ ≠ ((.slice Ao19 t111010.length co19) : Value).ownBlock ∧ some k_ ≠ ((.slice Ao40 t111013.length co40) : Value).ownBlock) (.slice Ao32 t111022.length co32) t111022) ∧ Aside0 (Below w.heap.size w w'))
                case atStart => exact ⟨(0), (wrap64 ((t111013.length : Int) - 1)), (by first | rfl | (simp; done) | (simp [*]; done)), (by first | rfl | (simp; done) | (simp [*]; done)), H', ⟨Nat.le_refl _⟩, ⟨by (with_reducible repeat (first | apply Kd.R_alloc | apply Kd.R_drewN | apply Kd.R_drew)); exact HO_9.out⟩, ⟨by (with_reducible repeat (first | apply Kd.R_alloc | apply Kd.R_drewN | apply Kd.R_drew)); exact HO_10.out⟩, ⟨by (with_reducible repeat (first | apply Kd.R_alloc | apply Kd.R_drewN | apply Kd.R_drew)); exact HO_14.out⟩, ⟨by repeat (first | (with_reducible first | exact HB.out | apply below_alloc | apply pw_below_drewN | apply below_drew1) | exact HB.out)⟩⟩
                case round =>
                 clear H'
                 try clear c1
                 try clear c2
                 try clear p2
                 try clear c3
                 try clear c4
                 try clear c5
                 try clear p6
                 try clear c11
                 try clear c12
                 try clear c12b0
                 try clear c12b1
                 try clear c13
                 try clear c22
                 try clear c22b0
                 try clear c22b1
                 try clear c26
                 try clear c34
                 try clear c35
                 try clear c35b0
                 try clear c35b1
                 try clear c36
                 try clear c38
                 try clear c38b0
                 try clear c38b1
                 try clear c39
                 try clear c39b0
                 try clear c40
                 try clear p2
                 obtain ⟨x20_5, x21_5, rfl, rfl, HA, HK5, HO_9, HO_10, HO_14, HB⟩ := hrel
                 cases gk with
                 | zero => exact absurd HA.out (by simp [laws_FnColourings.l1])
                 | succ k5 =>
                  have H := HA.out
                  clear HA
                  simp only [laws_FnColourings.l1] at H
                  by_cases c41 : x21_5 ≥ 0
                  ·rw [if_pos c41] at H
                   have c41b0 : decide (0 ≤ x21_5) = true := decide_eq_true c41
                   clear c41
                   by_cases c42 : 0 ≤ x21_5
                   ·rw [if_pos c42] at H
                    have c42b0 : decide (0 ≤ x21_5) = true := decide_eq_true c42
                    clear c42
                    by_cases c43 : x21_5 < (t111013.length : Int)
                    ·rw [if_pos c43] at H
                     have c43b0 : decide (x21_5 < (t111013.length : Int)) = true := decide_eq_true c43
                     clear c43
                     have H' := Aside0.mk H
                     clear H
                     have p111029 : 0 ≤ (x21_5 : Int) := of_decide_eq_true (by first | (with_reducible assumption) | assumption)
                     have q111029 : x21_5 < (t111013.length : Int) := of_decide_eq_true (by first | (with_reducible assumption) | assumption)
                     obtain ⟨ad111029, e111029, hx111029_0⟩ := Kd.at_int (Kd.R_reads' HO_10.out).2.2 x21_5 p111029 q111029
                     cases e111029
                     replace p111029 := eq_true p111029
                     replace q111029 := eq_true q111029
                     go_wp2
                     go_roundg k5
                     case measure => have := HJ6.out; have := HJ16.out; have := HJ29.out; have := HK4.out; have := HK5.out; omega
                     case rel => exact ⟨(wrap64 ((wrap64 (x20_5 * x19_4)) + (rd t111013 x21_5))), (wrap64 (x21_5 - 1)), (by first | rfl | (simp; done) | (simp [*]; done)), (by first | rfl | (simp; done) | (simp [*]; done)), H', ⟨by have := HJ6.out; have := HJ16.out; have := HJ29.out; have := HK4.out; have := HK5.out; omega⟩, ⟨by (with_reducible repeat (first | apply Kd.R_alloc | apply Kd.R_drewN | apply Kd.R_drew)); exact HO_9.out⟩, ⟨by (with_reducible repeat (first | apply Kd.R_alloc | apply Kd.R_drewN | apply Kd.R_drew)); exact HO_10.out⟩, ⟨by (with_reducible repeat (first | apply Kd.R_alloc | apply Kd.R_drewN | apply Kd.R_drew)); exact HO_14.out⟩, ⟨by repeat (first | (with_reducible first | exact HB.out | apply below_alloc | apply pw_below_drewN | apply below_drew1) | exact HB.out)⟩⟩
                    ·rw [if_neg c43] at H
                     exact absurd H (by simp)
                   ·rw [if_neg c42] at H
                    exact absurd H (by simp)
                  ·rw [if_neg c41] at H
                   have c41b0 : decide (0 ≤ x21_5) = false := decide_eq_false c41
                   clear c41
                   replace H := Option.bind_eq_some_iff.mp H
                   obtain ⟨⟨t111030, t111031⟩, A440, H⟩ := H
                   replace H : (if t111031 = 0 then (if t111030 = x20_5 then (laws_FnColourings.l0 k5 t111006 t111007 t111010 t111013 t111022 t111025 t111026 (wrap64 (x19_4 + 1))) else (some false)) else (some false)) = some r := H
                   have A44 := Aside0.mk A440
                   clear A440
                   by_cases c45 : t111031 = 0
                   ·rw [if_pos c45] at H
                    have c45b0 : (t111031 == 0) = true := beq_iff_eq.mpr c45
                    have c45b1 : (t111031 != 0) = false := bne_eq_false_iff_eq.mpr c45
                    clear c45
                    by_cases c46 : t111030 = x20_5
                    ·rw [if_pos c46] at H
                     have c46b0 : (t111030 == x20_5) = true := beq_iff_eq.mpr c46
                     have c46b1 : (t111030 != x20_5) = false := bne_eq_false_iff_eq.mpr c46
                     clear c46
                     have H' := Aside0.mk H
                     clear H
                     go_wp2_with (first | ((with_reducible refine gate_callee (f := 41) rfl ?_); refine goesL_ (some 120) rfl rfl Try.func41 (by kernel_rfl) rfl #[.slice Ao19 t111010.length co19, .int .i64 x19_4] rfl (by (try simp only [List.map_toArray, List.map_cons, List.map_nil]); first | done | rfl | (simp only [List.length_drop, List.length_take]; rfl)) ?_; (with_reducible refine (impl_CountColourings.calls k5 _ _ t111010 x19_4 t111030 t111031 _ ?side1 ?side2 A44.out).mono ?_); (case side1 => repeat (first | exact (Kd.R_reads' HO_9.out).2.2 | (with_reducible refine Kd.C_alloc ?_ _) | (with_reducible refine Kd.C_drewN ?_ _) | (with_reducible refine Kd.C_drew ?_))); (case side2 => exact (Kd.R_reads' HO_9.out).2.1); rintro e w47 ⟨rfl, hb⟩; refine ⟨_, rfl, ?_⟩; have n0_ := Aside0.mk (Kd.R_below (by (with_reducible repeat (first | apply Kd.R_alloc | apply Kd.R_drewN | apply Kd.R_drew)); exact HO_9.out) hb); have n1_ := Aside0.mk (Kd.R_below (by (with_reducible repeat (first | apply Kd.R_alloc | apply Kd.R_drewN | apply Kd.R_drew)); exact HO_10.out) hb); have n2_ := Aside0.mk (Kd.R_below (by (with_reducible repeat (first | apply Kd.R_alloc | apply Kd.R_drewN | apply Kd.R_drew)); exact HO_14.out) hb); have n3_ := Aside0.mk (below_step (by repeat (first | (with_reducible first | exact HB.out | apply below_alloc | apply pw_below_drewN | apply below_drew1) | exact HB.out)) hb); clear HO_9; clear HO_10; clear HO_14; clear HB; have HO_9 := n0_; have HO_10 := n1_; have HO_14 := n2_; have HB := n3_; clear n0_ n1_ n2_ n3_; (try clear hb); (try clear hb2); (try clear hk); (try clear hi)))
                     go_roundg k5
                     case measure => have := HJ6.out; have := HJ16.out; have := HJ29.out; have := HK4.out; have := HK5.out; omega
                     case rel => exact ⟨(wrap64 (x19_4 + 1)), (by first | rfl | (simp; done) | (simp [*]; done)), H', ⟨by have := HJ6.out; have := HJ16.out; have := HJ29.out; have := HK4.out; have := HK5.out; omega⟩, ⟨by (with_reducible repeat (first | apply Kd.R_alloc | apply Kd.R_drewN | apply Kd.R_drew)); exact HO_9.out⟩, ⟨by (with_reducible repeat (first | apply Kd.R_alloc | apply Kd.R_drewN | apply Kd.R_drew)); exact HO_10.out⟩, ⟨by (with_reducible repeat (first | apply Kd.R_alloc | apply Kd.R_drewN | apply Kd.R_drew)); exact HO_14.out⟩, ⟨by repeat (first | (with_reducible first | exact HB.out | apply below_alloc | apply pw_below_drewN | apply below_drew1) | exact HB.out)⟩⟩
                    ·rw [if_neg c46] at H
                     have c46b0 : (t111030 == x20_5) = false := beq_eq_false_iff_ne.mpr c46
                     have c46b1 : (t111030 != x20_5) = true := bne_iff_ne.mpr c46
                     obtain rfl := Option.some.inj H
                     go_wp2_with (first | ((with_reducible refine gate_callee (f := 41) rfl ?_); refine goesL_ (some 120) rfl rfl Try.func41 (by kernel_rfl) rfl #[.slice Ao19 t111010.length co19, .int .i64 x19_4] rfl (by (try simp only [List.map_toArray, List.map_cons, List.map_nil]); first | done | rfl | (simp only [List.length_drop, List.length_take]; rfl)) ?_; (with_reducible refine (impl_CountColourings.calls k5 _ _ t111010 x19_4 t111030 t111031 _ ?side1 ?side2 A44.out).mono ?_); (case side1 => repeat (first | exact (Kd.R_reads' HO_9.out).2.2 | (with_reducible refine Kd.C_alloc ?_ _) | (with_reducible refine Kd.C_drewN ?_ _) | (with_reducible refine Kd.C_drew ?_))); (case side2 => exact (Kd.R_reads' HO_9.out).2.1); rintro e w48 ⟨rfl, hb⟩; refine ⟨_, rfl, ?_⟩; have n0_ := Aside0.mk (Kd.R_below (by (with_reducible repeat (first | apply Kd.R_alloc | apply Kd.R_drewN | apply Kd.R_drew)); exact HO_9.out) hb); have n1_ := Aside0.mk (Kd.R_below (by (with_reducible repeat (first | apply Kd.R_alloc | apply Kd.R_drewN | apply Kd.R_drew)); exact HO_10.out) hb); have n2_ := Aside0.mk (Kd.R_below (by (with_reducible repeat (first | apply Kd.R_alloc | apply Kd.R_drewN | apply Kd.R_drew)); exact HO_14.out) hb); have n3_ := Aside0.mk (below_step (by repeat (first | (with_reducible first | exact HB.out | apply below_alloc | apply pw_below_drewN | apply below_drew1) | exact HB.out)) hb); clear HO_9; clear HO_10; clear HO_14; clear HB; have HO_9 := n0_; have HO_10 := n1_; have HO_14 := n2_; have HB := n3_; clear n0_ n1_ n2_ n3_; (try clear hb); (try clear hb2); (try clear hk); (try clear hi)))
                     go_ret
                     exact ⟨by first | rfl | (simp [errW_none, errW_some] <;> rfl) | (simp [*, errW_none, errW_some] <;> rfl), by repeat (first | (with_reducible first | exact HB.out | apply below_alloc | apply pw_below_drewN | apply below_drew1) | exact HB.out)⟩
                   ·rw [if_neg c45] at H
                    have c45b0 : (t111031 == 0) = false := beq_eq_false_iff_ne.mpr c45
                    have c45b1 : (t111031 != 0) = true := bne_iff_ne.mpr c45
                    obtain rfl := Option.some.inj H
                    go_wp2_with (first | ((with_reducible refine gate_callee (f := 41) rfl ?_); refine goesL_ (some 120) rfl rfl Try.func41 (by kernel_rfl) rfl #[.slice Ao19 t111010.length co19, .int .i64 x19_4] rfl (by (try simp only [List.map_toArray, List.map_cons, List.map_nil]); first | done | rfl | (simp only [List.length_drop, List.length_take]; rfl)) ?_; (with_reducible refine (impl_CountColourings.calls k5 _ _ t111010 x19_4 t111030 t111031 _ ?side1 ?side2 A44.out).mono ?_); (case side1 => repeat (first | exact (Kd.R_reads' HO_9.out).2.2 | (with_reducible refine Kd.C_alloc ?_ _) | (with_reducible refine Kd.C_drewN ?_ _) | (with_reducible refine Kd.C_drew ?_))); (case side2 => exact (Kd.R_reads' HO_9.out).2.1); rintro e w49 ⟨rfl, hb⟩; refine ⟨_, rfl, ?_⟩; have n0_ := Aside0.mk (Kd.R_below (by (with_reducible repeat (first | apply Kd.R_alloc | apply Kd.R_drewN | apply Kd.R_drew)); exact HO_9.out) hb); have n1_ := Aside0.mk (Kd.R_below (by (with_reducible repeat (first | apply Kd.R_alloc | apply Kd.R_drewN | apply Kd.R_drew)); exact HO_10.out) hb); have n2_ := Aside0.mk (Kd.R_below (by (with_reducible repeat (first | apply Kd.R_alloc | apply Kd.R_drewN | apply Kd.R_drew)); exact HO_14.out) hb); have n3_ := Aside0.mk (below_step (by repeat (first | (with_reducible first | exact HB.out | apply below_alloc | apply pw_below_drewN | apply below_drew1) | exact HB.out)) hb); clear HO_9; clear HO_10; clear HO_14; clear HB; have HO_9 := n0_; have HO_10 := n1_; have HO_14 := n2_; have HB := n3_; clear n0_ n1_ n2_ n3_; (try clear hb); (try clear hb2); (try clear hk); (try clear hi)))
                    go_ret
                    exact ⟨by first | rfl | (simp [errW_none, errW_some] <;> rfl) | (simp [*, errW_none, errW_some] <;> rfl), by repeat (first | (with_reducible first | exact HB.out | apply below_alloc | apply pw_below_drewN | apply below_drew1) | exact HB.out)⟩
               ·rw [if_neg c39] at H
                have c39b0 : decide (x19_4 ≤ 3) = false := decide_eq_false c39
                clear c39
                have H' := Aside0.mk H
                clear H
                go_wp2
                go_meet
                case rel => exact ⟨_, H', ⟨by have := HJ6.out; have := HJ16.out; have := HJ29.out; have := HK4.out; first | omega | exact Nat.le_refl _⟩, ⟨by (with_reducible repeat (first | apply Kd.R_alloc | apply Kd.R_drewN | apply Kd.R_drew)); exact Kd.R_mono HO_14.out (fun _ hk => trivial)⟩, ⟨by repeat (first | (with_reducible first | exact HB.out | apply below_alloc | apply pw_below_drewN | apply below_drew1) | exact HB.out)⟩⟩
            ·rw [if_neg c38] at H
             have c38b0 : (t111014 == 0) = false := beq_eq_false_iff_ne.mpr c38
             have c38b1 : (t111014 != 0) = true := bne_iff_ne.mpr c38
             (first | rw [c38b0] | (simp only [i64_w, i32_w]; rw [c38b0]) | skip)
             have H' := Aside0.mk H
             clear H
             go_wp2
             go_meet
             case rel => exact ⟨_, H', ⟨by have := HJ6.out; have := HJ16.out; have := HJ29.out; first | omega | exact Nat.le_refl _⟩, ⟨by (with_reducible repeat (first | apply Kd.R_alloc | apply Kd.R_drewN | apply Kd.R_drew)); exact Kd.R_mono HO_14.out (fun _ hk => trivial)⟩, ⟨by repeat (first | (with_reducible first | exact HB.out | apply below_alloc | apply pw_below_drewN | apply below_drew1) | exact HB.out)⟩⟩
           case rest =>
            clear HC37
            try clear c1
            try clear p1
            try clear q1
            try clear hx1
            try clear c2
            try clear p2
            try clear c3
            try clear c4
            try clear c5
            try clear p6
            try clear c11
            try clear p11
            try clear q11
            try clear hx11
            try clear c12
            try clear c12b0
            try clear c12b1
            try clear c13
            try clear c22
            try clear c22b0
            try clear c22b1
            try clear c26
            try clear c34
            try clear c35
            try clear c35b0
            try clear c35b1
            try clear c36
            try clear c38
            try clear c38b0
            try clear c38b1
            try clear c39
            try clear c39b0
            try clear c40
            try clear c41
            try clear c41b0
            try clear c42
            try clear c42b0
            try clear c43
            try clear c43b0
            try clear c45
            try clear c45b0
            try clear c45b1
            try clear c46
            try clear c46b0
            try clear c46b1
            try clear c49
            try clear hx111029_0
            try clear p111029
            try clear p2
            try clear p6
            try clear q111029
            obtain ⟨kq, HA, HJ36, HO_14, HB⟩ := hcut
            cases kq with
            | zero => exact absurd HA.out (by simp [laws_FnColourings.j5])
            | succ kj36 =>
             have H := HA.out
             clear HA
             simp only [laws_FnColourings.j5] at H
             have HC50 := Aside0.mk H
             clear H
             go_upto_region 30 with (fail)
             go_cut [135] (fun v135 wc => ∃ (kq : Nat) (x135_49 : Bool), v135 = .bool x135_49 ∧ Aside0 (laws_FnColourings.j6 kq t111006 t111007 t111022 t111025 x135_49 = some r) ∧ Aside0 (kq ≤ kj36) ∧ Aside0 (Kd.R (Kd.int .i64) 2 wc w.heap.size (fun _ => True) (.slice Ao32 t111022.length co32) t111022) ∧ Aside0 (Below w.heap.size w wc))
             case first =>
              have H := HC50.out
              clear HC50
              by_cases c51 : t111026 = 0
              ·rw [if_pos c51] at H
               have c51b0 : (t111026 == 0) = true := beq_iff_eq.mpr c51
               have c51b1 : (t111026 != 0) = false := bne_eq_false_iff_eq.mpr c51
               clear c51
               (first | rw [c51b0] | (simp only [i64_w, i32_w]; rw [c51b0]) | skip)
               have H' := Aside0.mk H
               clear H
               go_wp2
               go_meet
               case rel => exact ⟨_, (decide (t111025 ≤ 8)), (by first | rfl | (simp; done) | (simp [*]; done)), H', ⟨by have := HJ6.out; have := HJ16.out; have := HJ29.out; have := HJ36.out; first | omega | exact Nat.le_refl _⟩, ⟨by (with_reducible repeat (first | apply Kd.R_alloc | apply Kd.R_drewN | apply Kd.R_drew)); exact HO_14.out⟩, ⟨by repeat (first | (with_reducible first | exact HB.out | apply below_alloc | apply pw_below_drewN | apply below_drew1) | exact HB.out)⟩⟩
              ·rw [if_neg c51] at H
               have c51b0 : (t111026 == 0) = false := beq_eq_false_iff_ne.mpr c51
               have c51b1 : (t111026 != 0) = true := bne_iff_ne.mpr c51
               (first | rw [c51b0] | (simp only [i64_w, i32_w]; rw [c51b0]) | skip)
               have H' := Aside0.mk H
               clear H
               go_wp2
               go_meet
               case rel => exact ⟨_, (false), (by first | rfl | (simp; done) | (simp [*]; done)), H', ⟨by have := HJ6.out; have := HJ16.out; have := HJ29.out; have := HJ36.out; first | omega | exact Nat.le_refl _⟩, ⟨by (with_reducible repeat (first | apply Kd.R_alloc | apply Kd.R_drewN | apply Kd.R_drew)); exact HO_14.out⟩, ⟨by repeat (first | (with_reducible first | exact HB.out | apply below_alloc | apply pw_below_drewN | apply below_drew1) | exact HB.out)⟩⟩
             case rest =>
              clear HC50
              try clear c1
              try clear p1
              try clear q1
              try clear hx1
              try clear c2
              try clear p2
              try clear c3
              try clear c4
              try clear c5
              try clear p6
              try clear c11
              try clear p11
              try clear q11
              try clear hx11
              try clear c12
              try clear c12b0
              try clear c12b1
              try clear c13
              try clear c22
              try clear c22b0
              try clear c22b1
              try clear c26
              try clear c34
              try clear c35
              try clear c35b0
              try clear c35b1
              try clear c36
              try clear c38
              try clear c38b0
              try clear c38b1
              try clear c39
              try clear c39b0
              try clear c40
              try clear c41
              try clear c41b0
              try clear c42
              try clear c42b0
              try clear c43
              try clear c43b0
              try clear c45
              try clear c45b0
              try clear c45b1
              try clear c46
              try clear c46b0
              try clear c46b1
              try clear c49
              try clear c50
              try clear c51
              try clear c51b0
              try clear c51b1
              try clear hx111029_0
              try clear p1
              try clear p11
              try clear p111029
              try clear p2
              try clear p6
              try clear q1
              try clear q11
              try clear q111029
              obtain ⟨kq, x135_49, rfl, HA, HJ49, HO_14, HB⟩ := hcut
              cases kq with
              | zero => exact absurd HA.out (by simp [laws_FnColourings.j6])
              | succ kj49 =>
               have H := HA.out
               clear HA
               simp only [laws_FnColourings.j6] at H
               by_cases c52 : x135_49 = true
               ·subst c52
                have H1 : ((impl_CountColourings.f kj49 t111022 t111025).bind fun bt111032 => (if bt111032.2 = 0 then (laws_FnColourings.j7 kj49 t111006 t111007 t111022 t111025 (decide (bt111032.1 < 1))) else (laws_FnColourings.j7 kj49 t111006 t111007 t111022 t111025 true))) = some r := by rw [if_pos rfl] at H; exact H
                clear H
                have H := H1
                clear H1
                replace H := Option.bind_eq_some_iff.mp H
                obtain ⟨⟨t111032, t111033⟩, A530, H⟩ := H
                replace H : (if t111033 = 0 then (laws_FnColourings.j7 kj49 t111006 t111007 t111022 t111025 (decide (t111032 < 1))) else (laws_FnColourings.j7 kj49 t111006 t111007 t111022 t111025 true)) = some r := H
                have A53 := Aside0.mk A530
                clear A530
                have HC54 := Aside0.mk H
                clear H
                go_upto_region 32 with (first | ((with_reducible refine gate_callee (f := 41) rfl ?_); refine goesL_ (some 139) rfl rfl Try.func41 (by kernel_rfl) rfl #[.slice Ao32 t111022.length co32, .int .i64 t111025] rfl (by (try simp only [List.map_toArray, List.map_cons, List.map_nil]); first | done | rfl | (simp only [List.length_drop, List.length_take]; rfl)) ?_; (with_reducible refine (impl_CountColourings.calls kj49 _ _ t111022 t111025 t111032 t111033 _ ?side1 ?side2 A53.out).mono ?_); (case side1 => repeat (first | exact (Kd.R_reads' HO_14.out).2.2 | (with_reducible refine Kd.C_alloc ?_ _) | (with_reducible refine Kd.C_drewN ?_ _) | (with_reducible refine Kd.C_drew ?_))); (case side2 => exact (Kd.R_reads' HO_14.out).2.1); rintro e w55 ⟨rfl, hb⟩; refine ⟨_, rfl, ?_⟩; have n0_ := Aside0.mk (Kd.R_below (by (with_reducible repeat (first | apply Kd.R_alloc | apply Kd.R_drewN | apply Kd.R_drew)); exact HO_14.out) hb); have n1_ := Aside0.mk (below_step (by repeat (first | (with_reducible first | exact HB.out | apply below_alloc | apply pw_below_drewN | apply below_drew1) | exact HB.out)) hb); clear HO_14; clear HB; have HO_14 := n0_; have HB := n1_; clear n0_ n1_; (try clear hb); (try clear hb2); (try clear hk); (try clear hi)))
                (try simp only [Act.put, List.setIfInBounds_toArray, List.set_cons_zero, List.set_cons_succ])
                go_cut [147] (fun v147 wc => ∃ (kq : Nat) (x147_53 : Bool), v147 = .bool x147_53 ∧ Aside0 (laws_FnColourings.j7 kq t111006 t111007 t111022 t111025 x147_53 = some r) ∧ Aside0 (kq ≤ kj49) ∧ Aside0 (Kd.R (Kd.int .i64) 2 wc w.heap.size (fun _ => True) (.slice Ao32 t111022.length co32) t111022) ∧ Aside0 (Below w.heap.size w wc))
                case first =>
                 have H := HC54.out
                 clear HC54
                 by_cases c56 : t111033 = 0
                 ·rw [if_pos c56] at H
                  have c56b0 : (t111033 == 0) = true := beq_iff_eq.mpr c56
                  have c56b1 : (t111033 != 0) = false := bne_eq_false_iff_eq.mpr c56
                  clear c56
                  (first | rw [c56b0] | (simp only [i64_w, i32_w]; rw [c56b0]) | skip)
                  have H' := Aside0.mk H
                  clear H
                  go_wp2
                  go_meet
                  case rel => exact ⟨_, (decide (t111032 < 1)), (by first | rfl | (simp; done) | (simp [*]; done)), H', ⟨by have := HJ6.out; have := HJ16.out; have := HJ29.out; have := HJ36.out; have := HJ49.out; first | omega | exact Nat.le_refl _⟩, ⟨by (with_reducible repeat (first | apply Kd.R_alloc | apply Kd.R_drewN | apply Kd.R_drew)); exact HO_14.out⟩, ⟨by repeat (first | (with_reducible first | exact HB.out | apply below_alloc | apply pw_below_drewN | apply below_drew1) | exact HB.out)⟩⟩
                 ·rw [if_neg c56] at H
                  have c56b0 : (t111033 == 0) = false := beq_eq_false_iff_ne.mpr c56
                  have c56b1 : (t111033 != 0) = true := bne_iff_ne.mpr c56
                  (first | rw [c56b0] | (simp only [i64_w, i32_w]; rw [c56b0]) | skip)
                  have H' := Aside0.mk H
                  clear H
                  go_wp2
                  go_meet
                  case rel => exact ⟨_, (true), (by first | rfl | (simp; done) | (simp [*]; done)), H', ⟨by have := HJ6.out; have := HJ16.out; have := HJ29.out; have := HJ36.out; have := HJ49.out; first | omega | exact Nat.le_refl _⟩, ⟨by (with_reducible repeat (first | apply Kd.R_alloc | apply Kd.R_drewN | apply Kd.R_drew)); exact HO_14.out⟩, ⟨by repeat (first | (with_reducible first | exact HB.out | apply below_alloc | apply pw_below_drewN | apply below_drew1) | exact HB.out)⟩⟩
                case rest =>
                 clear HC54
                 try clear c1
                 try clear p1
                 try clear q1
                 try clear hx1
                 try clear c2
                 try clear p2
                 try clear c3
                 try clear c4
                 try clear c5
                 try clear p6
                 try clear c11
                 try clear p11
                 try clear q11
                 try clear hx11
                 try clear c12
                 try clear c12b0
                 try clear c12b1
                 try clear c13
                 try clear c22
                 try clear c22b0
                 try clear c22b1
                 try clear c26
                 try clear c34
                 try clear c35
                 try clear c35b0
                 try clear c35b1
                 try clear c36
                 try clear c38
                 try clear c38b0
                 try clear c38b1
                 try clear c39
                 try clear c39b0
                 try clear c40
                 try clear c41
                 try clear c41b0
                 try clear c42
                 try clear c42b0
                 try clear c43
                 try clear c43b0
                 try clear c45
                 try clear c45b0
                 try clear c45b1
                 try clear c46
                 try clear c46b0
                 try clear c46b1
                 try clear c49
                 try clear c50
                 try clear c51
                 try clear c51b0
                 try clear c51b1
                 try clear c52
                 try clear c53
                 try clear c54
                 try clear c55
                 try clear c56
                 try clear c56b0
                 try clear c56b1
                 try clear hx111029_0
                 try clear p1
                 try clear p11
                 try clear p111029
                 try clear p2
                 try clear p6
                 try clear q1
                 try clear q11
                 try clear q111029
                 obtain ⟨kq, x147_53, rfl, HA, HJ53, HO_14, HB⟩ := hcut
                 cases kq with
                 | zero => exact absurd HA.out (by simp [laws_FnColourings.j7])
                 | succ kj53 =>
                  have H := HA.out
                  clear HA
                  simp only [laws_FnColourings.j7] at H
                  by_cases c57 : x147_53 = true
                  ·subst c57
                   have H1 : (some false) = some r := by rw [if_pos rfl] at H; exact H
                   clear H
                   have H := H1
                   clear H1
                   obtain rfl := Option.some.inj H
                   go_wp2
                   go_ret
                   exact ⟨by first | rfl | (simp [errW_none, errW_some] <;> rfl) | (simp [*, errW_none, errW_some] <;> rfl), by repeat (first | (with_reducible first | exact HB.out | apply below_alloc | apply pw_below_drewN | apply below_drew1) | exact HB.out)⟩
                  ·replace c57 := Bool.eq_false_iff.mpr c57
                   subst c57
                   have H1 : (if t111025 > 0 then ((impl_CountColourings.f kj53 t111022 (wrap64 (t111025 - 1))).bind fun bt111034 => (if bt111034.2 = 0 then (if bt111034.1 = 0 then (if t111007 = 0 then (some (decide (t111006 ≥ 0))) else (some true)) else (some false)) else (some false))) else (if t111007 = 0 then (some (decide (t111006 ≥ 0))) else (some true))) = some r := by rw [if_neg (show ¬ (false = true) by decide)] at H; exact H
                   clear H
                   have H := H1
                   clear H1
                   by_cases c58 : t111025 > 0
                   ·rw [if_pos c58] at H
                    have c58b0 : decide (0 < t111025) = true := decide_eq_true c58
                    clear c58
                    replace H := Option.bind_eq_some_iff.mp H
                    obtain ⟨⟨t111034, t111035⟩, A590, H⟩ := H
                    replace H : (if t111035 = 0 then (if t111034 = 0 then (if t111007 = 0 then (some (decide (t111006 ≥ 0))) else (some true)) else (some false)) else (some false)) = some r := H
                    have A59 := Aside0.mk A590
                    clear A590
                    by_cases c60 : t111035 = 0
                    ·rw [if_pos c60] at H
                     have c60b0 : (t111035 == 0) = true := beq_iff_eq.mpr c60
                     have c60b1 : (t111035 != 0) = false := bne_eq_false_iff_eq.mpr c60
                     clear c60
                     by_cases c61 : t111034 = 0
                     ·rw [if_pos c61] at H
                      have c61b0 : (t111034 == 0) = true := beq_iff_eq.mpr c61
                      have c61b1 : (t111034 != 0) = false := bne_eq_false_iff_eq.mpr c61
                      clear c61
                      by_cases c62 : t111007 = 0
                      ·rw [if_pos c62] at H
                       have c62b0 : (t111007 == 0) = true := beq_iff_eq.mpr c62
                       have c62b1 : (t111007 != 0) = false := bne_eq_false_iff_eq.mpr c62
                       clear c62
                       obtain rfl := Option.some.inj H
                       go_wp2_with (first | ((with_reducible refine gate_callee (f := 41) rfl ?_); refine goesL_ (some 154) rfl rfl Try.func41 (by kernel_rfl) rfl #[.slice Ao32 t111022.length co32, .int .i64 (wrap64 (t111025 - 1))] rfl (by (try simp only [List.map_toArray, List.map_cons, List.map_nil]); first | done | rfl | (simp only [List.length_drop, List.length_take]; rfl)) ?_; (with_reducible refine (impl_CountColourings.calls kj53 _ _ t111022 (wrap64 (t111025 - 1)) t111034 t111035 _ ?side1 ?side2 A59.out).mono ?_); (case side1 => repeat (first | exact (Kd.R_reads' HO_14.out).2.2 | (with_reducible refine Kd.C_alloc ?_ _) | (with_reducible refine Kd.C_drewN ?_ _) | (with_reducible refine Kd.C_drew ?_))); (case side2 => exact (Kd.R_reads' HO_14.out).2.1); rintro e w63 ⟨rfl, hb⟩; refine ⟨_, rfl, ?_⟩; have n0_ := Aside0.mk (Kd.R_below (by (with_reducible repeat (first | apply Kd.R_alloc | apply Kd.R_drewN | apply Kd.R_drew)); exact HO_14.out) hb); have n1_ := Aside0.mk (below_step (by repeat (first | (with_reducible first | exact HB.out | apply below_alloc | apply pw_below_drewN | apply below_drew1) | exact HB.out)) hb); clear HO_14; clear HB; have HO_14 := n0_; have HB := n1_; clear n0_ n1_; (try clear hb); (try clear hb2); (try clear hk); (try clear hi)))
                       go_ret
                       exact ⟨by first | rfl | (simp [errW_none, errW_some] <;> rfl) | (simp [*, errW_none, errW_some] <;> rfl), by repeat (first | (with_reducible first | exact HB.out | apply below_alloc | apply pw_below_drewN | apply below_drew1) | exact HB.out)⟩
                      ·rw [if_neg c62] at H
                       have c62b0 : (t111007 == 0) = false := beq_eq_false_iff_ne.mpr c62
                       have c62b1 : (t111007 != 0) = true := bne_iff_ne.mpr c62
                       obtain rfl := Option.some.inj H
                       go_wp2_with (first | ((with_reducible refine gate_callee (f := 41) rfl ?_); refine goesL_ (some 154) rfl rfl Try.func41 (by kernel_rfl) rfl #[.slice Ao32 t111022.length co32, .int .i64 (wrap64 (t111025 - 1))] rfl (by (try simp only [List.map_toArray, List.map_cons, List.map_nil]); first | done | rfl | (simp only [List.length_drop, List.length_take]; rfl)) ?_; (with_reducible refine (impl_CountColourings.calls kj53 _ _ t111022 (wrap64 (t111025 - 1)) t111034 t111035 _ ?side1 ?side2 A59.out).mono ?_); (case side1 => repeat (first | exact (Kd.R_reads' HO_14.out).2.2 | (with_reducible refine Kd.C_alloc ?_ _) | (with_reducible refine Kd.C_drewN ?_ _) | (with_reducible refine Kd.C_drew ?_))); (case side2 => exact (Kd.R_reads' HO_14.out).2.1); rintro e w64 ⟨rfl, hb⟩; refine ⟨_, rfl, ?_⟩; have n0_ := Aside0.mk (Kd.R_below (by (with_reducible repeat (first | apply Kd.R_alloc | apply Kd.R_drewN | apply Kd.R_drew)); exact HO_14.out) hb); have n1_ := Aside0.mk (below_step (by repeat (first | (with_reducible first | exact HB.out | apply below_alloc | apply pw_below_drewN | apply below_drew1) | exact HB.out)) hb); clear HO_14; clear HB; have HO_14 := n0_; have HB := n1_; clear n0_ n1_; (try clear hb); (try clear hb2); (try clear hk); (try clear hi)))
                       go_ret
                       exact ⟨by first | rfl | (simp [errW_none, errW_some] <;> rfl) | (simp [*, errW_none, errW_some] <;> rfl), by repeat (first | (with_reducible first | exact HB.out | apply below_alloc | apply pw_below_drewN | apply below_drew1) | exact HB.out)⟩
                     ·rw [if_neg c61] at H
                      have c61b0 : (t111034 == 0) = false := beq_eq_false_iff_ne.mpr c61
                      have c61b1 : (t111034 != 0) = true := bne_iff_ne.mpr c61
                      obtain rfl := Option.some.inj H
                      go_wp2_with (first | ((with_reducible refine gate_callee (f := 41) rfl ?_); refine goesL_ (some 154) rfl rfl Try.func41 (by kernel_rfl) rfl #[.slice Ao32 t111022.length co32, .int .i64 (wrap64 (t111025 - 1))] rfl (by (try simp only [List.map_toArray, List.map_cons, List.map_nil]); first | done | rfl | (simp only [List.length_drop, List.length_take]; rfl)) ?_; (with_reducible refine (impl_CountColourings.calls kj53 _ _ t111022 (wrap64 (t111025 - 1)) t111034 t111035 _ ?side1 ?side2 A59.out).mono ?_); (case side1 => repeat (first | exact (Kd.R_reads' HO_14.out).2.2 | (with_reducible refine Kd.C_alloc ?_ _) | (with_reducible refine Kd.C_drewN ?_ _) | (with_reducible refine Kd.C_drew ?_))); (case side2 => exact (Kd.R_reads' HO_14.out).2.1); rintro e w65 ⟨rfl, hb⟩; refine ⟨_, rfl, ?_⟩; have n0_ := Aside0.mk (Kd.R_below (by (with_reducible repeat (first | apply Kd.R_alloc | apply Kd.R_drewN | apply Kd.R_drew)); exact HO_14.out) hb); have n1_ := Aside0.mk (below_step (by repeat (first | (with_reducible first | exact HB.out | apply below_alloc | apply pw_below_drewN | apply below_drew1) | exact HB.out)) hb); clear HO_14; clear HB; have HO_14 := n0_; have HB := n1_; clear n0_ n1_; (try clear hb); (try clear hb2); (try clear hk); (try clear hi)))
                      go_ret
                      exact ⟨by first | rfl | (simp [errW_none, errW_some] <;> rfl) | (simp [*, errW_none, errW_some] <;> rfl), by repeat (first | (with_reducible first | exact HB.out | apply below_alloc | apply pw_below_drewN | apply below_drew1) | exact HB.out)⟩
                    ·rw [if_neg c60] at H
                     have c60b0 : (t111035 == 0) = false := beq_eq_false_iff_ne.mpr c60
                     have c60b1 : (t111035 != 0) = true := bne_iff_ne.mpr c60
                     obtain rfl := Option.some.inj H
                     go_wp2_with (first | ((with_reducible refine gate_callee (f := 41) rfl ?_); refine goesL_ (some 154) rfl rfl Try.func41 (by kernel_rfl) rfl #[.slice Ao32 t111022.length co32, .int .i64 (wrap64 (t111025 - 1))] rfl (by (try simp only [List.map_toArray, List.map_cons, List.map_nil]); first | done | rfl | (simp only [List.length_drop, List.length_take]; rfl)) ?_; (with_reducible refine (impl_CountColourings.calls kj53 _ _ t111022 (wrap64 (t111025 - 1)) t111034 t111035 _ ?side1 ?side2 A59.out).mono ?_); (case side1 => repeat (first | exact (Kd.R_reads' HO_14.out).2.2 | (with_reducible refine Kd.C_alloc ?_ _) | (with_reducible refine Kd.C_drewN ?_ _) | (with_reducible refine Kd.C_drew ?_))); (case side2 => exact (Kd.R_reads' HO_14.out).2.1); rintro e w66 ⟨rfl, hb⟩; refine ⟨_, rfl, ?_⟩; have n0_ := Aside0.mk (Kd.R_below (by (with_reducible repeat (first | apply Kd.R_alloc | apply Kd.R_drewN | apply Kd.R_drew)); exact HO_14.out) hb); have n1_ := Aside0.mk (below_step (by repeat (first | (with_reducible first | exact HB.out | apply below_alloc | apply pw_below_drewN | apply below_drew1) | exact HB.out)) hb); clear HO_14; clear HB; have HO_14 := n0_; have HB := n1_; clear n0_ n1_; (try clear hb); (try clear hb2); (try clear hk); (try clear hi)))
                     go_ret
                     exact ⟨by first | rfl | (simp [errW_none, errW_some] <;> rfl) | (simp [*, errW_none, errW_some] <;> rfl), by repeat (first | (with_reducible first | exact HB.out | apply below_alloc | apply pw_below_drewN | apply below_drew1) | exact HB.out)⟩
                   ·rw [if_neg c58] at H
                    have c58b0 : decide (0 < t111025) = false := decide_eq_false c58
                    clear c58
                    by_cases c67 : t111007 = 0
                    ·rw [if_pos c67] at H
                     have c67b0 : (t111007 == 0) = true := beq_iff_eq.mpr c67
                     have c67b1 : (t111007 != 0) = false := bne_eq_false_iff_eq.mpr c67
                     clear c67
                     obtain rfl := Option.some.inj H
                     go_wp2
                     go_ret
                     exact ⟨by first | rfl | (simp [errW_none, errW_some] <;> rfl) | (simp [*, errW_none, errW_some] <;> rfl), by repeat (first | (with_reducible first | exact HB.out | apply below_alloc | apply pw_below_drewN | apply below_drew1) | exact HB.out)⟩
                    ·rw [if_neg c67] at H
                     have c67b0 : (t111007 == 0) = false := beq_eq_false_iff_ne.mpr c67
                     have c67b1 : (t111007 != 0) = true := bne_iff_ne.mpr c67
                     obtain rfl := Option.some.inj H
                     go_wp2
                     go_ret
                     exact ⟨by first | rfl | (simp [errW_none, errW_some] <;> rfl) | (simp [*, errW_none, errW_some] <;> rfl), by repeat (first | (with_reducible first | exact HB.out | apply below_alloc | apply pw_below_drewN | apply below_drew1) | exact HB.out)⟩
               ·replace c52 := Bool.eq_false_iff.mpr c52
                subst c52
                have H1 : (if t111007 = 0 then (some (decide (t111006 ≥ 0))) else (some true)) = some r := by rw [if_neg (show ¬ (false = true) by decide)] at H; exact H
                clear H
                have H := H1
                clear H1
                by_cases c68 : t111007 = 0
                ·rw [if_pos c68] at H
                 have c68b0 : (t111007 == 0) = true := beq_iff_eq.mpr c68
                 have c68b1 : (t111007 != 0) = false := bne_eq_false_iff_eq.mpr c68
                 clear c68
                 obtain rfl := Option.some.inj H
                 go_wp2
                 go_ret
                 exact ⟨by first | rfl | (simp [errW_none, errW_some] <;> rfl) | (simp [*, errW_none, errW_some] <;> rfl), by repeat (first | (with_reducible first | exact HB.out | apply below_alloc | apply pw_below_drewN | apply below_drew1) | exact HB.out)⟩
                ·rw [if_neg c68] at H
                 have c68b0 : (t111007 == 0) = false := beq_eq_false_iff_ne.mpr c68
                 have c68b1 : (t111007 != 0) = true := bne_iff_ne.mpr c68
                 obtain rfl := Option.some.inj H
                 go_wp2
                 go_ret
                 exact ⟨by first | rfl | (simp [errW_none, errW_some] <;> rfl) | (simp [*, errW_none, errW_some] <;> rfl), by repeat (first | (with_reducible first | exact HB.out | apply below_alloc | apply pw_below_drewN | apply below_drew1) | exact HB.out)⟩
def laws_FnColourings.Pure : Prop := ∀ (l0 : List Int), l0.length ≤ maxLen → l0.length * 1 ≤ 140737488351232 → (∀ x ∈ l0, (Lit.int .u8 x).wf = true) → ∃ k, laws_FnColourings.f k l0 = some true
theorem laws_FnColourings.walk (P : laws_FnColourings.Pure) (a0 : Option Addr) (len0 cap0 : Nat) (z0 : List Int) (w : World) (w0 : (a0 = none ∧ len0 = 0 ∧ cap0 = 0 ∧ z0 = []) ∨ ∃ x, a0 = some x ∧ len0 ≤ cap0 ∧ cap0 ≤ maxLen ∧ z0.length = cap0 ∧ (∀ i, i < z0.length → w.cell? (x.add i) = some (.int .u8 (z0.getD i 0))) ∧ ∀ n ∈ z0, (Lit.int .u8 n).wf = true) (y0 : len0 * 1 ≤ 140737488351232) :
  Calls Try.prog 11 #[.slice a0 len0 cap0] w fun e w' => e = .returned (.bool true) ∧ Below w.heap.size w w' := by
 obtain ⟨l0, rfl, hr0, hm0, hw0, hc0⟩ := ReadsInt.ofRowC w0
 obtain ⟨k, h⟩ := P l0 hm0 y0 hw0
 refine (laws_FnColourings.calls k _ _ l0 true w (Kd.C_of_reads (d := (0 : Int)) (h1 := fun _ => rfl) hr0) hc0 h).mono ?_
 rintro e w' ⟨rfl, hd⟩
 exact ⟨rfl, hd⟩
end Go.Proofs.Ytnlhhbnoccobmaa.F
end
section
namespace Go.Proofs.Ytnlhhbnoccobmaa.Pure
open Go.RowKit Go.Proofs.Ytnlhhbnoccobmaa.F Go.Proofs.YtnlhhbnoccobmaaW.PrintWords Go.Proofs.YtnlhhbnoccobmaaW.PrintLast
set_option linter.unusedVariables false
set_option linter.unusedSimpArgs false
structure Src (c : List Int) (s : Int) : Prop where
  len : c.length ≤ 4096
  byte : ∀ x ∈ c, 0 ≤ x ∧ x ≤ 255
  lo : 0 ≤ s
  hi : s ≤ (c.length : Int)
def Fit64 (l : List Int) : Prop := ∀ x ∈ l, (Lit.int .i64 x).wf = true
theorem ownD_f (x : List Int) (h : x.length ≤ 1048576) : spec_l01Own.f x = some x := by
  unfold spec_l01Own.f
  simp only [Option.bind_some, List.length_nil, List.nil_append]
  rw [if_pos (by omega)]
theorem fit_wrap (y : Int) : (Lit.int .i64 (wrap64 y)).wf = true := WalkArith.wf_i64 (by unfold wrap64; omega)
theorem and_mask (X : Int) : 0 ≤ Go.bits .and .u64 (IntKind.u64.wrap X / 8589934592) 16777215 ∧ Go.bits .and .u64 (IntKind.u64.wrap X / 8589934592) 16777215 ≤ 16777215 := by
  have h : IntKind.u64.wrap X = X % 18446744073709551616 := by simp [IntKind.wrap, IntKind.bits, IntKind.signed]
  rw [h]
  obtain ⟨a, ha⟩ : ∃ a : Nat, X % 18446744073709551616 / 8589934592 = (a : Int) := ⟨(X % 18446744073709551616 / 8589934592).toNat, by omega⟩
  have hb : a < 18446744073709551616 := by omega
  rw [ha]
  have e := bits_and_u64_nat a 16777215 hb (by decide)
  have h2 : (((16777215 : Nat) : Int)) = (16777215 : Int) := rfl
  rw [h2] at e
  rw [e]
  have := Nat.and_le_right (n := a) (m := 16777215)
  omega
theorem next_ok {c : List Int} {s : Int} (h : Src c s) (s2 n : Int) (hn : n ≤ 1000000) : ∃ x s' s2', spec_l01Next.f c s s2 n = some (x, s', s2') ∧ Src c s' ∧ 0 ≤ x ∧ (x < n ∨ (n < 1 ∧ x = 0)) := by
  unfold spec_l01Next.f
  by_cases h1 : n < 1
  · rw [if_pos h1]; exact ⟨0, s, s2, rfl, h, Int.le_refl _, .inr ⟨h1, rfl⟩⟩
  · rw [if_neg h1]
    have hb := and_mask (IntKind.u64.wrap (s2 * 6364136223846793005) + 1442695040888963407)
    generalize Go.bits .and .u64 (IntKind.u64.wrap (IntKind.u64.wrap (s2 * 6364136223846793005) + 1442695040888963407) / 8589934592) 16777215 = B at hb ⊢
    have w1 : wrap64 B = B := by unfold wrap64; omega
    have hlo := h.lo
    have hhi := h.hi
    have hl := h.len
    by_cases h2 : s < (c.length : Int)
    · rw [if_pos h2, if_pos hlo, if_neg (by omega)]
      obtain ⟨i, rfl⟩ : ∃ i : Nat, s = (i : Int) := ⟨s.toNat, by omega⟩
      rw [rdN]
      have hx : 0 ≤ c.getD i 0 ∧ c.getD i 0 ≤ 255 := by
        rw [List.getD_eq_getElem?_getD, List.getElem?_eq_getElem (by omega)]
        exact h.byte _ (List.getElem_mem _)
      generalize c.getD i 0 = y at hx ⊢
      have w2 : wrap64 y = y := by unfold wrap64; omega
      have w3 : wrap64 (B + y) = B + y := by unfold wrap64; omega
      have w4 : wrap64 ((i : Int) + 1) = (i : Int) + 1 := by unfold wrap64; omega
      rw [w1, w2, w3, w4]
      exact ⟨_, _, _, rfl, ⟨hl, h.byte, by omega, by omega⟩, Int.tmod_nonneg _ (by omega), .inl (Int.tmod_lt_of_pos _ (by omega))⟩
    · rw [if_neg h2, if_neg (by omega), w1]
      exact ⟨_, _, _, rfl, h, Int.tmod_nonneg _ (by omega), .inl (Int.tmod_lt_of_pos _ (by omega))⟩
theorem from_ok (c : List Int) (hl : c.length ≤ 4096) (hb : ∀ x ∈ c, 0 ≤ x ∧ x ≤ 255) : ∃ s2, Ev (fun k => spec_l01From.f k c) (c, 0, s2) ∧ Src c 0 := by
  have key : ∀ d i (s2 : Int), i + d = c.length → ∃ s2', Ev (fun k => spec_l01From.l0 k c (i : Int) c 0 s2) (c, 0, s2') := by
    intro d
    induction d with
    | zero =>
      intro i s2 hi
      refine ⟨s2, Ev_succ ?_⟩
      simp only [spec_l01From.l0]
      exact Ev.congr (fun k => if_neg (by omega)) (Ev.now _)
    | succ d ih =>
      intro i s2 hi
      obtain ⟨s2', h⟩ := ih (i + 1) (IntKind.u64.wrap ((IntKind.u64.wrap ((IntKind.u64.wrap (s2 * 1099511628211)) + (IntKind.u64.wrap (rd c i)))) + 113)) (by omega)
      refine ⟨s2', Ev_succ ?_⟩
      simp only [spec_l01From.l0]
      refine Ev.congr (fun k => if_pos (by omega)) (Ev.congr (fun k => if_pos (by omega)) (Ev.congr (fun k => if_pos (by omega)) ?_))
      rw [wS (n := i) (by omega)]
      exact h
  unfold spec_l01From.f
  obtain ⟨s2', h⟩ := key c.length 0 (IntKind.u64.wrap (13031 + (IntKind.u64.wrap ((c.length : Int))))) (by omega)
  exact ⟨s2', h, ⟨hl, hb, Int.le_refl _, by omega⟩⟩
theorem pick_ok {c : List Int} {s : Int} (h : Src c s) (s2 : Int) (l : List Int) (h0 : 0 < l.length) (h1 : l.length ≤ 1000) : ∃ i s' s2', i < l.length ∧ spec_l01Pick.f c s s2 l = some (l.getD i 0, s', s2') ∧ Src c s' := by
  obtain ⟨x, s', s2', e, hs, hx, hlt⟩ := next_ok h s2 (l.length : Int) (by omega)
  have hx2 : x < (l.length : Int) := by rcases hlt with g | g <;> omega
  obtain ⟨i, rfl⟩ : ∃ i : Nat, x = (i : Int) := ⟨x.toNat, by omega⟩
  refine ⟨i, s', s2', by omega, ?_, hs⟩
  unfold spec_l01Pick.f
  rw [e]
  simp only [Option.bind_some]
  rw [if_pos hx, if_pos hx2, rdN]
theorem nrm_length (l : List Int) : (nrm l).length = l.length := by
  refine snocInd (P := fun l => (nrm l).length = l.length) rfl ?_ l
  intro l y h
  rw [nrm_snoc, List.length_append, List.length_append, h]; rfl
theorem mets_le (l : List Int) : (mets l).length ≤ l.length := by
  refine snocInd (P := fun l => (mets l).length ≤ l.length) (by rw [mets_nil]; exact Nat.le_refl _) ?_ l
  intro l y h
  rw [mets_snoc, List.length_append, List.length_singleton]
  split
  · omega
  · rw [List.length_append, List.length_singleton]; omega
theorem nrm_fit (l : List Int) (h : l.length ≤ 1048576) : Fit64 (nrm l) := by
  intro x hx
  obtain ⟨i, hi, rfl⟩ := (nrm_mem l x).1 hx
  have := mets_le l
  exact WalkArith.wf_i64 (by omega)
theorem add_ok (l : List Int) (p q : Int) (hl : l.length ≤ 1000) (h0 : 0 ≤ p) (h1 : p ≤ q) (h2 : q ≤ (l.length : Int)) : ∃ r, Ev (fun k => spec_l01Add.f k l p q) r ∧ r.length = l.length + 2 ∧ Fit64 r := by
  obtain ⟨a, rfl⟩ : ∃ a : Nat, p = (a : Int) := ⟨p.toNat, by omega⟩
  obtain ⟨b, rfl⟩ : ∃ b : Nat, q = (b : Int) := ⟨q.toNat, by omega⟩
  have hab : a ≤ b := by omega
  have hb : b ≤ l.length := by omega
  obtain ⟨z, hz⟩ : ∃ z, z = l.take a ++ [99] ++ (l.take b).drop a ++ [99] ++ l.drop b := ⟨_, rfl⟩
  have hzl : z.length = l.length + 2 := by rw [hz]; simp; omega
  refine ⟨nrm z, ?_, by rw [nrm_length]; exact hzl, nrm_fit z (by omega)⟩
  unfold spec_l01Add.f
  simp only [Int.toNat_natCast]
  refine Ev.congr (fun k => if_pos h0) (Ev.congr (fun k => if_pos (by omega)) ?_)
  rw [ownD_f _ (by rw [List.length_take]; omega)]
  simp only [Option.bind_some]
  refine Ev.congr (fun k => if_pos (by rw [List.length_take]; omega)) (Ev.congr (fun k => if_pos h1) (Ev.congr (fun k => if_pos h2) (Ev.congr (fun k => if_pos (by simp; omega)) (Ev.congr (fun k => if_pos (by simp; omega)) (Ev.congr (fun k => if_pos (by omega)) (Ev.congr (fun k => if_pos (by simp; omega)) ?_))))))
  rw [← hz]
  exact Ev.bind (normal_ev z (by omega)) (Ev.now _)
theorem drawOf_ok {c : List Int} {s : Int} (h : Src c s) (s2 : Int) (n : Nat) (hn : n ≤ 100) : ∃ out s' s2', Ev (fun k => spec_l01DrawOf.f k c s s2 (n : Int)) (out, s', s2') ∧ Src c s' ∧ out.length = 2 * n ∧ Fit64 out := by
  have key : ∀ d i (l : List Int) (s s2 : Int), Src c s → i + d = n → l.length = 2 * i → Fit64 l → ∃ out s' s2', Ev (fun k => spec_l01DrawOf.l0 k (n : Int) l (i : Int) c s s2) (out, s', s2') ∧ Src c s' ∧ out.length = 2 * n ∧ Fit64 out := by
    intro d
    induction d with
    | zero =>
      intro i l s s2 h hi hl hf
      refine ⟨l, s, s2, Ev_succ ?_, h, by omega, hf⟩
      simp only [spec_l01DrawOf.l0]
      exact Ev.congr (fun k => if_neg (by omega)) (Ev.now _)
    | succ d ih =>
      intro i l s s2 h hi hl hf
      have w1 : wrap64 ((l.length : Int) + 1) = (l.length : Int) + 1 := by unfold wrap64; omega
      obtain ⟨q, s1, t1, e1, hs1, hq, hq2⟩ := next_ok h s2 ((l.length : Int) + 1) (by omega)
      have hq3 : q ≤ (l.length : Int) := by rcases hq2 with g | g <;> omega
      have w2 : wrap64 (q + 1) = q + 1 := by unfold wrap64; omega
      obtain ⟨p, s3, t3, e3, hs3, hp, hp2⟩ := next_ok hs1 t1 (q + 1) (by omega)
      have hp3 : p ≤ q := by rcases hp2 with g | g <;> omega
      obtain ⟨r, hr, hrl, hrf⟩ := add_ok l p q (by omega) hp hp3 hq3
      obtain ⟨out, s', s2', ho, g1, g2, g3⟩ := ih (i + 1) r s3 t3 hs3 (by omega) (by omega) hrf
      refine ⟨out, s', s2', Ev_succ ?_, g1, g2, g3⟩
      simp only [spec_l01DrawOf.l0]
      refine Ev.congr (fun k => if_pos (by omega)) ?_
      rw [w1, e1]
      simp only [Option.bind_some]
      rw [w2, e3]
      simp only [Option.bind_some]
      refine Ev.bind hr ?_
      rw [wS (n := i) (by omega)]
      exact ho
  unfold spec_l01DrawOf.f
  exact key n 0 [] s s2 h (by omega) rfl (fun x hx => absurd hx (by simp))
theorem draw_ok {c : List Int} {s : Int} (h : Src c s) (s2 : Int) : ∃ out s' s2', Ev (fun k => spec_l01Draw.f k c s s2) (out, s', s2') ∧ Src c s' ∧ out.length ≤ 12 ∧ Fit64 out := by
  obtain ⟨i, s1, t1, hi, e1, hs1⟩ := pick_ok h s2 [0, 1, 2, 2, 3, 3, 4, 4, 5, 6] (by decide) (by decide)
  obtain ⟨n, hn, hn6⟩ : ∃ n : Nat, ([0, 1, 2, 2, 3, 3, 4, 4, 5, 6] : List Int).getD i 0 = (n : Int) ∧ n ≤ 6 := by
    have : i < 10 := hi
    match i, this with
    | 0, _ => exact ⟨0, rfl, by decide⟩
    | 1, _ => exact ⟨1, rfl, by decide⟩
    | 2, _ => exact ⟨2, rfl, by decide⟩
    | 3, _ => exact ⟨2, rfl, by decide⟩
    | 4, _ => exact ⟨3, rfl, by decide⟩
    | 5, _ => exact ⟨3, rfl, by decide⟩
    | 6, _ => exact ⟨4, rfl, by decide⟩
    | 7, _ => exact ⟨4, rfl, by decide⟩
    | 8, _ => exact ⟨5, rfl, by decide⟩
    | 9, _ => exact ⟨6, rfl, by decide⟩
  obtain ⟨out, s', s2', ho, g1, g2, g3⟩ := drawOf_ok hs1 t1 n (by omega)
  refine ⟨out, s', s2', ?_, g1, by omega, g3⟩
  unfold spec_l01Draw.f
  rw [e1]
  simp only [Option.bind_some]
  rw [hn]
  exact Ev.bind ho (Ev.now _)
theorem join_ok (a b : List Int) (ha : a.length ≤ 1000) (hb : b.length ≤ 1000) (hf : Fit64 a) : ∃ r, Ev (fun k => spec_l01Join.f k a b) r ∧ r.length = a.length + b.length ∧ Fit64 r := by
  have key : ∀ d i (r : List Int), i + d = b.length → r.length = a.length + i → Fit64 r → ∃ r', Ev (fun k => spec_l01Join.l0 k a b r (i : Int)) r' ∧ r'.length = a.length + b.length ∧ Fit64 r' := by
    intro d
    induction d with
    | zero =>
      intro i r hi hr hf
      refine ⟨r, Ev_succ ?_, by omega, hf⟩
      simp only [spec_l01Join.l0]
      exact Ev.congr (fun k => if_neg (by omega)) (Ev.now _)
    | succ d ih =>
      intro i r hi hr hf
      obtain ⟨r', h1, h2, h3⟩ := ih (i + 1) (r ++ [wrap64 ((rd b i) + (wrap64 ((a.length : Int) / 2)))]) (by omega) (by simp; omega) (fun x hx => by
        rcases List.mem_append.1 hx with g | g
        · exact hf x g
        · simp at g; rw [g]; exact fit_wrap _)
      refine ⟨r', Ev_succ ?_, h2, h3⟩
      simp only [spec_l01Join.l0]
      refine Ev.congr (fun k => if_pos (by omega)) (Ev.congr (fun k => if_pos (by omega)) (Ev.congr (fun k => if_pos (by omega)) ?_))
      rw [wS (n := i) (by omega)]
      exact h1
  unfold spec_l01Join.f
  rw [ownD_f a (by omega)]
  simp only [Option.bind_some]
  exact key b.length 0 a (by omega) (by omega) hf
theorem bad_ok {c : List Int} {s : Int} (h : Src c s) (s2 : Int) (l : List Int) (hl : l.length ≤ 100) (hf : Fit64 l) : ∃ out s' s2', Ev (fun k => spec_l01Bad.f k c s s2 l) (out, s', s2') ∧ Src c s' ∧ out.length ≤ 2 * l.length + 14 ∧ Fit64 out := by
  obtain ⟨x, s1, t1, e1, hs1, hx, hx2⟩ := next_ok h s2 40 (by decide)
  have fit_pick : ∀ (z : List Int) (i : Nat), i < z.length → Fit64 z → (Lit.int .i64 (z.getD i 0)).wf = true := fun z i hi hz => by
    rw [List.getD_eq_getElem?_getD, List.getElem?_eq_getElem hi]; exact hz _ (List.getElem_mem _)
  unfold spec_l01Bad.f
  rw [e1]
  simp only [Option.bind_some]
  rw [ownD_f l (by omega)]
  simp only [Option.bind_some]
  by_cases h0 : x = 0
  · obtain ⟨i, s3, t3, hi, e3, hs3⟩ := pick_ok hs1 t1 [0, wrap64 ((l.length : Int) / 2)] (by simp) (by simp)
    refine ⟨l ++ [([0, wrap64 ((l.length : Int) / 2)] : List Int).getD i 0], s3, t3, ?_, hs3, by simp; omega, fun y hy => ?_⟩
    · refine Ev.congr (fun k => if_pos h0) ?_
      rw [e3]
      simp only [Option.bind_some]
      exact Ev.congr (fun k => if_pos (by omega)) (Ev.now _)
    · rcases List.mem_append.1 hy with g | g
      · exact hf y g
      · rw [List.mem_singleton] at g
        rw [g]
        refine fit_pick _ i hi (fun z hz => ?_)
        rcases List.mem_cons.1 hz with q | q
        · rw [q]; decide
        · rw [List.mem_singleton] at q; rw [q]; exact fit_wrap _
  · by_cases h1 : x = 1
    · by_cases hp : (l.length : Int) > 0
      · obtain ⟨y, s3, t3, e3, hs3, hy, hy2⟩ := next_ok hs1 t1 (l.length : Int) (by omega)
        have hy3 : y < (l.length : Int) := by rcases hy2 with g | g <;> omega
        obtain ⟨i, s4, t4, hi, e4, hs4⟩ := pick_ok hs3 t3 [0, 1, (-1), 7] (by decide) (by decide)
        refine ⟨l.set y.toNat (([0, 1, (-1), 7] : List Int).getD i 0), s4, t4, ?_, hs4, by simp; omega, fun z hz => ?_⟩
        · refine Ev.congr (fun k => if_neg h0) (Ev.congr (fun k => if_pos h1) (Ev.congr (fun k => if_pos hp) ?_))
          rw [e3]
          simp only [Option.bind_some]
          rw [e4]
          simp only [Option.bind_some]
          exact Ev.congr (fun k => if_pos hy) (Ev.congr (fun k => if_pos hy3) (Ev.now _))
        · rcases List.mem_or_eq_of_mem_set hz with g | g
          · exact hf z g
          · rw [g]
            refine fit_pick _ i hi (fun z hz => ?_)
            simp at hz
            rcases hz with q | q | q | q <;> (rw [q]; decide)
      · exact ⟨l, s1, t1, Ev.congr (fun k => if_neg h0) (Ev.congr (fun k => if_pos h1) (Ev.congr (fun k => if_neg hp) (Ev.now _))), hs1, by omega, hf⟩
    · by_cases h2 : x = 2
      · have key : ∀ d i (r : List Int), i + d = l.length → r.length = l.length → Fit64 r → ∃ r', Ev (fun k => spec_l01Bad.l0 k r (i : Int) c s1 t1) (r', s1, t1) ∧ r'.length = l.length ∧ Fit64 r' := by
          intro d
          induction d with
          | zero =>
            intro i r hi hr hf
            refine ⟨r, Ev_succ ?_, hr, hf⟩
            simp only [spec_l01Bad.l0]
            exact Ev.congr (fun k => if_neg (by omega)) (Ev.now _)
          | succ d ih =>
            intro i r hi hr hf
            obtain ⟨r', g1, g2, g3⟩ := ih (i + 1) (r.set i (wrap64 ((rd r i) + 1))) (by omega) (by rw [List.length_set]; exact hr) (fun z hz => by
              rcases List.mem_or_eq_of_mem_set hz with g | g
              · exact hf z g
              · rw [g]; exact fit_wrap _)
            refine ⟨r', Ev_succ ?_, g2, g3⟩
            simp only [spec_l01Bad.l0]
            refine Ev.congr (fun k => if_pos (by omega)) (Ev.congr (fun k => if_pos (by omega)) ?_)
            rw [Int.toNat_natCast, wS (n := i) (by omega)]
            exact g1
        obtain ⟨r', g1, g2, g3⟩ := key l.length 0 l (by omega) rfl hf
        exact ⟨r', s1, t1, Ev.congr (fun k => if_neg h0) (Ev.congr (fun k => if_neg h1) (Ev.congr (fun k => if_pos h2) g1)), hs1, by omega, g3⟩
      · by_cases h3 : x = 3
        · obtain ⟨a, a1, a2, a3⟩ := join_ok l l (by omega) (by omega) hf
          obtain ⟨b, b1, b2, b3⟩ := join_ok a [0, 1, 0, 1, 2, 3, 2, 3, 4, 4, 5, 5, 6, 6] (by omega) (by decide) a3
          refine ⟨b, s1, t1, Ev.congr (fun k => if_neg h0) (Ev.congr (fun k => if_neg h1) (Ev.congr (fun k => if_neg h2) (Ev.congr (fun k => if_pos h3) (Ev.bind a1 (Ev.bind b1 (Ev.now _)))))), hs1, ?_, b3⟩
          rw [b2, a2]; simp; omega
        · exact ⟨l, s1, t1, Ev.congr (fun k => if_neg h0) (Ev.congr (fun k => if_neg h1) (Ev.congr (fun k => if_neg h2) (Ev.congr (fun k => if_neg h3) (Ev.now _)))), hs1, by omega, hf⟩
theorem spoil_ok {c : List Int} {s : Int} (h : Src c s) (s2 : Int) : ∃ out s' s2', Ev (fun k => spec_l01Spoil.f k c s s2) (out, s', s2') ∧ Src c s' ∧ out.length ≤ 38 ∧ Fit64 out := by
  obtain ⟨l, s1, t1, e1, hs1, hl, hf⟩ := draw_ok h s2
  obtain ⟨o, s3, t3, e3, hs3, hl3, hf3⟩ := bad_ok hs1 t1 l (by omega) hf
  refine ⟨o, s3, t3, ?_, hs3, by omega, hf3⟩
  unfold spec_l01Spoil.f
  exact Ev.bind e1 (Ev.bind e3 (Ev.now _))
end Go.Proofs.Ytnlhhbnoccobmaa.Pure
end
section
namespace Go.Proofs.Ytnlhhbnoccobmaa.Pure
open Go.RowKit Go.Proofs.Ytnlhhbnoccobmaa.F Go.Proofs.Ytnlhhbnoccobmaa.Mem Go.Proofs.Ytnlhhbnoccobmaa.Chrom Go.Proofs.YtnlhhbnoccobmaaW.PrintWords Go.Proofs.YtnlhhbnoccobmaaW.PrintLast
set_option linter.unusedVariables false
set_option linter.unusedSimpArgs false
theorem value_ev (l : List Int) (x : Int) (hl : l.length ≤ 1048576) : Ev (fun k => spec_l10Value.f k l x) (valS x (backTo l l.length)) := by
  have key : ∀ k' d, d + k' = l.length → Ev (fun k => spec_l10Value.l0 k l x (valS x (backTo l d)) ((k' : Int) - 1)) (valS x (backTo l l.length)) := by
    intro k'
    induction k' with
    | zero =>
      intro d hd
      obtain rfl : d = l.length := by omega
      refine Ev_succ ?_
      simp only [spec_l10Value.l0]
      exact Ev.congr (fun k => if_neg (by omega)) (Ev.now _)
    | succ k' ih =>
      intro d hd
      have e : (((k' + 1 : Nat) : Int) - 1) = (k' : Int) := by omega
      rw [e]
      refine Ev_succ ?_
      simp only [spec_l10Value.l0]
      refine Ev.congr (fun k => if_pos (by omega)) (Ev.congr (fun k => if_pos (by omega)) (Ev.congr (fun k => if_pos (by omega)) ?_))
      have h := ih (d + 1) (by omega)
      rw [backTo, valS_snoc, show l.length - 1 - d = k' from by omega] at h
      rw [rdN, show wrap64 ((k' : Int) - 1) = (k' : Int) - 1 from by unfold wrap64; omega]
      exact h
  unfold spec_l10Value.f
  rw [show wrap64 ((l.length : Int) - 1) = (l.length : Int) - 1 from by unfold wrap64; omega]
  exact key l.length 0 (by omega)
def countV (l : List Int) (a : Int) : Int × Int := if isW l = true then (if decide (0 ≤ a ∧ a ≤ 8) = true then (valS a (backTo (polyV l) (polyV l).length), 0) else (0, 2)) else (0, 1)
theorem specCount_ev (l : List Int) (a : Int) : Ev (fun k => spec_CountColourings.f k l a) (countV l a) := by
  unfold spec_CountColourings.f countV
  refine Ev.bind (is_ev l) ?_
  by_cases h : isW l = true
  · rw [if_pos h]
    refine Ev.congr (fun k => if_pos h) ?_
    simp only [spec_in_f, Option.bind_some]
    by_cases g : decide (0 ≤ a ∧ a ≤ 8) = true
    · rw [if_pos g]
      refine Ev.congr (fun k => if_pos g) ?_
      rw [show spec_l10Polynomial.f l = some (polyV l) from by unfold spec_l10Polynomial.f; rw [if_pos h]]
      exact Ev.bind (Ev.now _) (Ev.bind (value_ev (polyV l) a (polyV_le l h)) (Ev.now _))
    · rw [if_neg g]
      exact Ev.congr (fun k => if_neg g) (Ev.now _)
  · rw [if_neg h]
    exact Ev.congr (fun k => if_neg h) (Ev.now _)
theorem implCount_ev (l : List Int) (a : Int) (hw : ∀ x ∈ l, (Lit.int .i64 x).wf = true) : Ev (fun k => impl_CountColourings.f k l a) (countV l a) := by
  unfold impl_CountColourings.f countV
  refine Ev.bind (isWord_ev l hw) ?_
  by_cases h : isW l = true
  · rw [if_pos h]
    refine Ev.congr (fun k => if_pos h) ?_
    simp only [in_f, Option.bind_some]
    by_cases g : decide (0 ≤ a ∧ a ≤ 8) = true
    · rw [if_pos g]
      refine Ev.congr (fun k => if_pos g) ?_
      refine Ev.bind (colour_poly l ((isW_iff l).1 h) h) ?_
      have := polyV_le l h
      rw [show impl_valueAt.f (polyV l) a = some (valS a (backTo (polyV l) (polyV l).length)) from by unfold impl_valueAt.f; rw [if_pos (by omega)]]
      exact Ev.now _
    · rw [if_neg g]
      exact Ev.congr (fun k => if_neg g) (Ev.now _)
  · rw [if_neg h]
    exact Ev.congr (fun k => if_neg h) (Ev.now _)
end Go.Proofs.Ytnlhhbnoccobmaa.Pure
end
section
namespace Go.Proofs.Ytnlhhbnoccobmaa.Pure
open Go.RowKit Go.Proofs.Ytnlhhbnoccobmaa.F Go.Proofs.Ytnlhhbnoccobmaa.Mem Go.Proofs.Ytnlhhbnoccobmaa.Chrom Go.Proofs.YtnlhhbnoccobmaaW.PrintWords Go.Proofs.YtnlhhbnoccobmaaW.PrintLast
set_option linter.unusedVariables false
set_option linter.unusedSimpArgs false
def colV (w : List Int) : List Int × Int := if isW w = true then (polyV w, 0) else ([], 1)
theorem implCol_ev (w : List Int) (hwf : ∀ x ∈ w, (Lit.int .i64 x).wf = true) : Ev (fun k => impl_ColouringPolynomial.f k w) (colV w) := by
  unfold impl_ColouringPolynomial.f colV
  refine Ev.bind (isWord_ev w hwf) ?_
  by_cases h : isW w = true
  · rw [if_pos h]
    refine Ev.congr (fun k => if_pos h) ?_
    exact Ev.bind (colour_poly w ((isW_iff w).1 h) h) (Ev.now _)
  · rw [if_neg h]
    exact Ev.congr (fun k => if_neg h) (Ev.now _)
theorem colV_len (w : List Int) : (colV w).1.length ≤ 1048576 := by
  unfold colV
  by_cases h : isW w = true
  · rw [if_pos h]; exact polyV_le w h
  · rw [if_neg h]; simp
theorem specPoly_f (w : List Int) (h : isW w = true) : spec_l10Polynomial.f w = some (polyV w) := by unfold spec_l10Polynomial.f; rw [if_pos h]
theorem specCol_ev (w : List Int) : Ev (fun k => spec_ColouringPolynomial.f k w) (colV w) := by
  unfold spec_ColouringPolynomial.f colV
  refine Ev.bind (code10_ev w [] (by simp)) ?_
  by_cases h : isW w = true
  · rw [if_pos h, if_pos h, if_pos (by simp)]
    refine Ev.congr (f := fun _ => some (polyV w, 0)) (fun k => ?_) (Ev.now _)
    (try rw [if_pos rfl]); rw [specPoly_f w h]
    rfl
  · rw [if_neg h, if_neg h]
    exact Ev.congr (f := fun _ => some ([], 1)) (fun k => by rw [if_neg (by decide)]) (Ev.now _)
end Go.Proofs.Ytnlhhbnoccobmaa.Pure
end
section
namespace Go.Proofs.Ytnlhhbnoccobmaa.Pure
open Go.RowKit Go.Proofs.Ytnlhhbnoccobmaa.F Go.Proofs.Ytnlhhbnoccobmaa.Mem Go.Proofs.Ytnlhhbnoccobmaa.Chrom Go.Proofs.YtnlhhbnoccobmaaW.PrintWords Go.Proofs.YtnlhhbnoccobmaaW.PrintLast
set_option linter.unusedVariables false
set_option linter.unusedSimpArgs false
theorem sumR_bound (f : Nat → Int) (B : Int) : ∀ n : Nat, (∀ x, x < n → 0 ≤ f x ∧ f x ≤ B) → 0 ≤ sumR f n ∧ sumR f n ≤ n * B
  | 0, _ => ⟨Int.le_refl _, by simp [sumR]⟩
  | n + 1, h => by
    have ih := sumR_bound f B n (fun x hx => h x (by omega))
    have h1 := h n (by omega)
    rw [sumR, Int.natCast_succ, Int.add_mul, Int.one_mul]
    omega
theorem ext_bound (X : Nat → Nat → Bool) (K : Nat) : ∀ (d : Nat) (c : List Nat), 0 ≤ ext X K d c ∧ ext X K d c ≤ ((K ^ d : Nat) : Int)
  | 0, c => by rw [ext]; simp
  | d + 1, c => by
    rw [ext]
    have := sumR_bound (fun x => if okc X c x = true then ext X K d (c ++ [x]) else 0) ((K ^ d : Nat) : Int) K (fun x hx => by
      have := ext_bound X K d (c ++ [x])
      show 0 ≤ (if okc X c x = true then ext X K d (c ++ [x]) else 0) ∧ (if okc X c x = true then ext X K d (c ++ [x]) else 0) ≤ _
      split <;> omega)
    rw [Nat.pow_succ, Int.natCast_mul, Int.mul_comm]
    exact this
def okcTo (X : Nat → Nat → Bool) (c : List Nat) (x i : Nat) : Bool := (List.range i).all fun v => !(X c.length v) || !(at_ c v == x)
theorem okcTo_succ (X : Nat → Nat → Bool) (c : List Nat) (x i : Nat) : okcTo X c x (i + 1) = (okcTo X c x i && (!(X c.length i) || !(at_ c i == x))) := by
  unfold okcTo; rw [List.range_succ, List.all_append, List.all_cons, List.all_nil, Bool.and_true]
theorem rd_rowsK {w : List Int} {i : Nat} (hi : i < w.length / 2) : rd_L1 (rowsOf w) (i : Int) = rowTo w i (w.length / 2) := by
  unfold rd_L1; rw [Int.toNat_natCast]; exact rowsOf_get hi
theorem ent_zero (w : List Int) (i k : Nat) : ent w i k = 0 ↔ crossB w i k = false := by
  unfold ent; cases crossB w i k <;> simp
theorem colour_l1 (w : List Int) (hw : Word w) (n : Nat) (hn : n = w.length / 2) (K : Nat) (c : List Nat) (hc : c.length < n) (sum : Int) (x : Nat) (r : Int)
    (hr : Ev (fun k => if okc (crossB w) c x = true then ((spec_l01Own.f (ints c)).bind fun t => (if t.length < 17592186044416 then ((spec_l10Colour.f k (rowsOf w) (t ++ [(x : Int)]) (K : Int)).bind fun u => (spec_l10Colour.l0 k (rowsOf w) (ints c) (K : Int) (c.length : Int) (wrap64 (sum + u)) (wrap64 ((x : Int) + 1)))) else (none))) else (spec_l10Colour.l0 k (rowsOf w) (ints c) (K : Int) (c.length : Int) sum (wrap64 ((x : Int) + 1)))) r) :
    Ev (fun k => spec_l10Colour.l1 k (rowsOf w) (ints c) (K : Int) (c.length : Int) sum (x : Int) true 0) r := by
  have hle := hw.le
  have hl : (rowsOf w).length = n := by rw [hn]; exact rowsTo_len w _
  have hil := ints_len c
  have key : ∀ q i, i + q = c.length → Ev (fun k => spec_l10Colour.l1 k (rowsOf w) (ints c) (K : Int) (c.length : Int) sum (x : Int) (okcTo (crossB w) c x i) (i : Int)) r := by
    intro q
    induction q with
    | zero =>
      intro i hi
      obtain rfl : i = c.length := by omega
      refine Ev_succ ?_
      simp only [spec_l10Colour.l1]
      exact Ev.congr (fun k => if_neg (by omega)) hr
    | succ q ihq =>
      intro i hi
      have hh := ihq (i + 1) (by omega)
      rw [okcTo_succ] at hh
      refine Ev_succ ?_
      simp only [spec_l10Colour.l1]
      refine Ev.congr (fun k => if_pos (by omega)) ?_
      rw [rd_rowsK (show c.length < _ by omega), rowTo_len, rdN, rowTo_get (by omega), rdN, ints_getD c i (by omega), wS (by omega)]
      by_cases hf : okcTo (crossB w) c x i = true
      · rw [hf, Bool.true_and] at hh
        refine Ev.congr (fun k => if_pos hf) (Ev.congr (fun k => if_pos (by omega)) (Ev.congr (fun k => if_pos (by omega)) (Ev.congr (fun k => if_pos (by omega)) (Ev.congr (fun k => if_pos (by omega)) ?_))))
        by_cases hx : crossB w c.length i = false
        · rw [hx, Bool.not_false, Bool.true_or] at hh
          exact Ev.congr (fun k => if_pos ((ent_zero w _ _).2 hx)) hh
        · rw [show crossB w c.length i = true from by simpa using hx, Bool.not_true, Bool.false_or] at hh
          refine Ev.congr (fun k => if_neg (fun h => hx ((ent_zero w _ _).1 h))) (Ev.congr (fun k => if_pos (by omega)) ?_)
          rw [show (((c.getD i 0 : Nat) : Int) != (x : Int)) = !(at_ c i == x) from by
            show (!((((c.getD i 0 : Nat) : Int)) == (x : Int))) = !(c.getD i 0 == x)
            congr 1
            rw [Bool.eq_iff_iff, beq_iff_eq, beq_iff_eq]; omega]
          exact hh
      · rw [show okcTo (crossB w) c x i = false from by simpa using hf, Bool.false_and] at hh
        exact Ev.congr (fun k => if_neg hf) hh
  exact key c.length 0 (by omega)
theorem colour_ev (w : List Int) (hw : Word w) (n : Nat) (hn : n = w.length / 2) (K : Nat) (hK : K ≤ 7) : ∀ (d : Nat) (c : List Nat), c.length + d = n → Ev (fun k => spec_l10Colour.f k (rowsOf w) (ints c) (K : Int)) (ext (crossB w) K d c) := by
  have hle := hw.le
  have hl : (rowsOf w).length = n := by rw [hn]; exact rowsTo_len w _
  intro d
  induction d with
  | zero =>
    intro c hc
    have hil := ints_len c
    refine Ev_succ ?_
    simp only [spec_l10Colour.f]
    rw [ext]
    exact Ev.congr (fun k => if_pos (by omega)) (Ev.now _)
  | succ d ih =>
    intro c hc
    have hil := ints_len c
    refine Ev_succ ?_
    simp only [spec_l10Colour.f]
    refine Ev.congr (fun k => if_neg (by omega)) ?_
    rw [hil, ext]
    have hp : K ^ d ≤ 117649 := Nat.le_trans (Nat.pow_le_pow_left hK d) (Nat.le_trans (Nat.pow_le_pow_right (n := 7) (by decide) (show d ≤ 6 by omega)) (by decide))
    have hb : ∀ x, 0 ≤ (if okc (crossB w) c x = true then ext (crossB w) K d (c ++ [x]) else 0) ∧ (if okc (crossB w) c x = true then ext (crossB w) K d (c ++ [x]) else 0) ≤ 117649 := fun x => by
      have := ext_bound (crossB w) K d (c ++ [x])
      split <;> omega
    generalize hF : (fun x => if okc (crossB w) c x = true then ext (crossB w) K d (c ++ [x]) else 0) = F
    have hb2 : ∀ x, 0 ≤ F x ∧ F x ≤ 117649 := fun x => by rw [← hF]; exact hb x
    have key : ∀ q x, x + q = K → Ev (fun k => spec_l10Colour.l0 k (rowsOf w) (ints c) (K : Int) (c.length : Int) (sumR F x) (x : Int)) (sumR F K) := by
      intro q
      induction q with
      | zero =>
        intro x hx
        obtain rfl : x = K := by omega
        refine Ev_succ ?_
        simp only [spec_l10Colour.l0]
        exact Ev.congr (fun k => if_neg (by omega)) (Ev.now _)
      | succ q ihq =>
        intro x hx
        have hh := ihq (x + 1) (by omega)
        have h1 := sumR_bound F 117649 x (fun y _ => hb2 y)
        have h2 := hb2 x
        rw [sumR] at hh
        refine Ev_succ ?_
        simp only [spec_l10Colour.l0]
        refine Ev.congr (fun k => if_pos (by omega)) ?_
        refine colour_l1 w hw n hn K c (by omega) _ x _ ?_
        rw [wS (by omega)]
        by_cases hf : okc (crossB w) c x = true
        · refine Ev.congr (fun k => if_pos hf) ?_
          rw [own_f _ (by omega)]
          refine Ev.congr (fun k => (Option.bind_some _ _).trans (if_pos (by omega))) ?_
          rw [show ints c ++ [(x : Int)] = ints (c ++ [x]) from (ints_app c [x]).symm]
          refine Ev.bind (ih (c ++ [x]) (by rw [List.length_append, List.length_singleton]; omega)) ?_
          rw [show ext (crossB w) K d (c ++ [x]) = F x from by rw [← hF]; exact (if_pos hf).symm, show wrap64 (sumR F x + F x) = sumR F x + F x from by
            have : (x : Int) * 117649 ≤ 7 * 117649 := Int.mul_le_mul_of_nonneg_right (by omega) (by decide)
            unfold wrap64; omega]
          exact hh
        · refine Ev.congr (fun k => if_neg hf) ?_
          rw [show F x = 0 from by rw [← hF]; exact if_neg hf, Int.add_zero] at hh
          exact hh
    exact key K 0 (by omega)
end Go.Proofs.Ytnlhhbnoccobmaa.Pure
end
section
namespace Go.Proofs.Ytnlhhbnoccobmaa.Pure
open Go.RowKit Go.Proofs.Ytnlhhbnoccobmaa.F Go.Proofs.Ytnlhhbnoccobmaa.Mem Go.Proofs.Ytnlhhbnoccobmaa.Chrom Go.Proofs.YtnlhhbnoccobmaaW.PrintWords Go.Proofs.YtnlhhbnoccobmaaW.PrintLast
set_option linter.unusedVariables false
set_option linter.unusedSimpArgs false
theorem sumR_pos (f : Nat → Int) (a : Nat) : ∀ n, a < n → (∀ x, x < n → 0 ≤ f x) → 0 < f a → 0 < sumR f n
  | 0, h, _, _ => absurd h (by omega)
  | n + 1, h, h0, hp => by
    have hs : ∀ m, m ≤ n + 1 → 0 ≤ sumR f m := by
      intro m
      induction m with
      | zero => intro _; exact Int.le_refl _
      | succ m ih =>
        intro hm
        have := ih (by omega)
        have := h0 m (by omega)
        rw [sumR]; omega
    rw [sumR]
    by_cases e : a = n
    · have := hs n (by omega)
      rw [← e] at this ⊢; omega
    · have := sumR_pos f a n (by omega) (fun x hx => h0 x (by omega)) hp
      have := h0 n (by omega)
      omega
theorem at_range {m v : Nat} (h : v < m) : at_ (List.range m) v = v := by
  unfold at_; rw [List.getD_eq_getElem?_getD, List.getElem?_range h]; rfl
theorem ext_pos (X : Nat → Nat → Bool) (K : Nat) : ∀ d m, m + d ≤ K → 0 < ext X K d (List.range m)
  | 0, m, _ => by rw [ext]; decide
  | d + 1, m, h => by
    rw [ext]
    refine sumR_pos _ m K (by omega) (fun x _ => ?_) ?_
    · show 0 ≤ (if okc X (List.range m) x = true then ext X K d (List.range m ++ [x]) else 0)
      have := ext_bound X K d (List.range m ++ [x])
      split <;> omega
    · show 0 < (if okc X (List.range m) m = true then ext X K d (List.range m ++ [m]) else 0)
      rw [if_pos (okc_iff.2 fun v hv _ => by rw [List.length_range] at hv; rw [at_range hv]; omega), ← List.range_succ]
      exact ext_pos X K d (m + 1) (by omega)
def fst (f : Nat → Bool) : Nat → Nat → Nat
  | 0, j => j
  | d + 1, j => if f j = true then j else fst f d (j + 1)
def leastV (w : List Int) : Int × Int := if isW w = true then ((fst (fun k => ext (crossB w) k (w.length / 2) [] != 0) (w.length / 2) 0 : Nat), 0) else (0, 1)
theorem specLea_ev (w : List Int) : Ev (fun k => spec_LeastColours.f k w) (leastV w) := by
  unfold spec_LeastColours.f leastV
  refine Ev.bind (code10_ev w [] (by simp)) ?_
  by_cases h : isW w = true
  · rw [if_pos h, if_pos h, if_pos (by simp)]
    have hw := (isW_iff w).1 h
    have hle := hw.le
    refine Ev.congr (fun k => if_pos rfl) (Ev.bind (srows_ev w hw) ?_)
    obtain ⟨n, hn⟩ : ∃ n, n = w.length / 2 := ⟨_, rfl⟩
    rw [← hn]
    have key : ∀ d j, j + d = n → Ev (fun k => spec_LeastColours.l0 k (rowsOf w) (j : Int)) (((fst (fun k => ext (crossB w) k n [] != 0) d j : Nat) : Int), (0 : Int)) := by
      intro d
      induction d with
      | zero =>
        intro j hj
        have hp := ext_pos (crossB w) j n 0 (by omega)
        refine Ev_succ ?_
        simp only [spec_LeastColours.l0]
        refine Ev.bind (colour_ev w hw n hn j (by omega) n [] (by simp)) ?_
        exact Ev.congr (fun k => if_neg (by
          rw [show List.range 0 = [] from rfl] at hp; omega)) (Ev.now _)
      | succ d ih =>
        intro j hj
        refine Ev_succ ?_
        simp only [spec_LeastColours.l0]
        refine Ev.bind (colour_ev w hw n hn j (by omega) n [] (by simp)) ?_
        rw [fst, wS (by omega)]
        by_cases e : ext (crossB w) j n [] = 0
        · rw [if_neg (by simp [e])]
          exact Ev.congr (fun k => if_pos e) (ih (j + 1) (by omega))
        · rw [if_pos (by simp [e])]
          exact Ev.congr (fun k => if_neg e) (Ev.now _)
    exact key n 0 (by omega)
  · rw [if_neg h, if_neg h]
    exact Ev.congr (fun k => if_neg (by decide)) (Ev.now _)
theorem ext_first (X : Nat → Nat → Bool) (n k : Nat) (hk : k ≤ n) (h : ∀ j, j < k → (clsOf X n).getD j 0 = 0) : ext X k n [] = (clsOf X n).getD k 0 * fall k k := by
  rw [← clsOf_ev]
  unfold ev
  rw [clsOf_len]
  refine sumR_one (f := fun j => (clsOf X n).getD j 0 * fall k j) (a := k) (n + 1) (by omega) (fun x hx hne => ?_)
  show (clsOf X n).getD x 0 * fall k x = 0
  rcases Nat.lt_or_gt_of_ne hne with g | g
  · rw [h x g, Int.zero_mul]
  · rw [fall_zero k x g, Int.mul_zero]
theorem first_class (X : Nat → Nat → Bool) (n : Nat) : ∀ d j, j + d ≤ n → (∀ i, i < j → (clsOf X n).getD i 0 = 0) → fst (fun k => ext X k n [] != 0) d j = fst (fun k => decide (0 < (clsOf X n).getD k 0)) d j
  | 0, _, _, _ => rfl
  | d + 1, j, hj, h => by
    have e := ext_first X n j (by omega) h
    have hf := fall_pos j j (Nat.le_refl _)
    have hb := (ext_bound X j n []).1
    rw [fst, fst]
    by_cases hz : (clsOf X n).getD j 0 = 0
    · rw [hz, Int.zero_mul] at e
      rw [if_neg (by simp [e]), if_neg (show ¬ decide (0 < (clsOf X n).getD j 0) = true from by rw [hz]; decide)]
      refine first_class X n d (j + 1) (by omega) (fun i hi => ?_)
      by_cases c : i = j
      · rw [c]; exact hz
      · exact h i (by omega)
    · have hne : ext X j n [] ≠ 0 := by rw [e]; exact Int.mul_ne_zero hz (by omega)
      have hp : 0 < (clsOf X n).getD j 0 := by
        rcases Int.lt_or_gt_of_ne hz with g | g
        · have : (clsOf X n).getD j 0 * fall j j < 0 := Int.mul_neg_of_neg_of_pos g hf
          omega
        · exact g
      rw [if_pos (by simp [hne]), if_pos (by simpa using hp)]
end Go.Proofs.Ytnlhhbnoccobmaa.Pure
end
section
namespace Go.Proofs.Ytnlhhbnoccobmaa.Pure
open Go.RowKit Go.Proofs.Ytnlhhbnoccobmaa.F Go.Proofs.Ytnlhhbnoccobmaa.Mem Go.Proofs.Ytnlhhbnoccobmaa.Chrom Go.Proofs.YtnlhhbnoccobmaaW.PrintWords Go.Proofs.YtnlhhbnoccobmaaW.PrintLast
set_option linter.unusedVariables false
set_option linter.unusedSimpArgs false
theorem idxZ_fst (l : List Int) : ∀ d j, j + d = l.length → (∃ i, j ≤ i ∧ i < l.length ∧ 0 < l.getD i 0) → idxZ moreZ (l.drop j) j = ((fst (fun k => decide (0 < l.getD k 0)) d j : Nat) : Int)
  | 0, j, hj, h => by obtain ⟨i, h1, h2, _⟩ := h; omega
  | d + 1, j, hj, h => by
    have hjl : j < l.length := by omega
    rw [List.drop_eq_getElem_cons hjl, idxZ, fst]
    have e : l.getD j 0 = l[j] := by rw [List.getD_eq_getElem?_getD, List.getElem?_eq_getElem hjl]; rfl
    rw [e]
    by_cases c : 0 < l[j]
    · rw [if_pos (show moreZ l[j] = true from decide_eq_true c), if_pos (decide_eq_true c)]
    · rw [if_neg (show ¬ moreZ l[j] = true from by unfold moreZ; simpa using c), if_neg (by simpa using c)]
      refine idxZ_fst l d (j + 1) (by omega) ?_
      obtain ⟨i, h1, h2, h3⟩ := h
      refine ⟨i, ?_, h2, h3⟩
      by_cases g : i = j
      · subst g; rw [e] at h3; exact absurd h3 c
      · omega
theorem fst_le (f : Nat → Bool) : ∀ d j, fst f d j ≤ j + d
  | 0, j => Nat.le_refl _
  | d + 1, j => by
    rw [fst]
    split
    · omega
    · have := fst_le f d (j + 1); omega
theorem fst_succ (f : Nat → Bool) (d j : Nat) : fst f (d + 1) j = if f j = true then j else fst f d (j + 1) := rfl
theorem fst_snoc (f : Nat → Bool) : ∀ d j, f (j + d) = true → fst f (d + 1) j = fst f d j
  | 0, j, h => by
    rw [fst_succ, if_pos (by rw [Nat.add_zero] at h; exact h)]; rfl
  | d + 1, j, h => by
    rw [fst_succ f (d + 1) j, fst_succ f d j]
    by_cases c : f j = true
    · rw [if_pos c, if_pos c]
    · rw [if_neg c, if_neg c]
      exact fst_snoc f d (j + 1) (by rw [← h]; congr 1; omega)
theorem fst_miss (f : Nat → Bool) : ∀ d j, fst f d j = j + d → ∀ i, j ≤ i → i < j + d → f i = false
  | 0, _, _, i, h1, h2 => by omega
  | d + 1, j, h, i, h1, h2 => by
    rw [fst] at h
    by_cases c : f j = true
    · rw [if_pos c] at h; omega
    · rw [if_neg c] at h
      by_cases e : i = j
      · rw [e]; simpa using c
      · exact fst_miss f d (j + 1) (by omega) i (by omega) (by omega)
theorem fst_hit (f : Nat → Bool) : ∀ d j, fst f d j < j + d → f (fst f d j) = true
  | 0, j, h => by rw [fst] at h; omega
  | d + 1, j, h => by
    rw [fst] at h ⊢
    by_cases c : f j = true
    · rw [if_pos c]; exact c
    · rw [if_neg c] at h ⊢; exact fst_hit f d (j + 1) (by omega)
theorem least_there (X : Nat → Nat → Bool) (n : Nat) : ∃ i, i < n + 1 ∧ 0 < (clsOf X n).getD i 0 ∧ fst (fun k => ext X k n [] != 0) n 0 = fst (fun k => decide (0 < (clsOf X n).getD k 0)) (n + 1) 0 := by
  have hf := first_class X n n 0 (by omega) (fun i hi => absurd hi (Nat.not_lt_zero _))
  have hb := fst_le (fun k => decide (0 < (clsOf X n).getD k 0)) n 0
  rw [hf]
  by_cases c : fst (fun k => decide (0 < (clsOf X n).getD k 0)) n 0 = 0 + n
  · have hm := fst_miss _ n 0 c
    have hext := fst_miss (fun k => ext X k n [] != 0) n 0 (hf.trans c)
    have hz : ∀ m, m ≤ n → ∀ j, j < m → (clsOf X n).getD j 0 = 0 := by
      intro m
      induction m with
      | zero => intro _ j hj; exact absurd hj (Nat.not_lt_zero _)
      | succ m ih =>
        intro hm2 j hj
        by_cases e : j = m
        · subst e
          have h1 := ext_first X n j (by omega) (ih (by omega))
          have h2 := hext j (Nat.zero_le _) (by omega)
          have h3 : ext X j n [] = 0 := by simpa using h2
          rw [h3] at h1
          have hp := fall_pos j j (Nat.le_refl _)
          rcases Int.mul_eq_zero.1 h1.symm with g | g
          · exact g
          · omega
        · exact ih (by omega) j (by omega)
    have h1 := ext_first X n n (Nat.le_refl _) (hz n (Nat.le_refl _))
    have h2 := ext_pos X n n 0 (by omega)
    rw [show List.range 0 = [] from rfl, h1] at h2
    have hp := fall_pos n n (Nat.le_refl _)
    have hpos : 0 < (clsOf X n).getD n 0 := by
      rcases Int.lt_or_le 0 ((clsOf X n).getD n 0) with g | g
      · exact g
      · have : (clsOf X n).getD n 0 * fall n n ≤ 0 := Int.mul_nonpos_of_nonpos_of_nonneg g (Int.le_of_lt hp)
        omega
    exact ⟨n, by omega, hpos, (fst_snoc _ n 0 (by show decide (0 < (clsOf X n).getD (0 + n) 0) = true; rw [Nat.zero_add]; exact decide_eq_true hpos)).symm⟩
  · have hlt : fst (fun k => decide (0 < (clsOf X n).getD k 0)) n 0 < 0 + n := by omega
    have hh := fst_hit _ n 0 hlt
    refine ⟨_, by omega, of_decide_eq_true hh, ?_⟩
    have key : ∀ d j, fst (fun k => decide (0 < (clsOf X n).getD k 0)) d j < j + d → fst (fun k => decide (0 < (clsOf X n).getD k 0)) (d + 1) j = fst (fun k => decide (0 < (clsOf X n).getD k 0)) d j := by
      intro d
      induction d with
      | zero => intro j h; rw [fst] at h; omega
      | succ d ih =>
        intro j h
        rw [fst_succ _ (d + 1) j, fst_succ _ d j]
        rw [fst_succ _ d j] at h
        by_cases c : decide (0 < (clsOf X n).getD j 0) = true
        · rw [if_pos c, if_pos c]
        · rw [if_neg c, if_neg c]
          rw [if_neg c] at h
          exact ih (j + 1) (by omega)
    exact (key n 0 hlt).symm
theorem implLea_ev (w : List Int) (hwf : ∀ x ∈ w, (Lit.int .i64 x).wf = true) : Ev (fun k => impl_LeastColours.f k w) (leastV w) := by
  unfold impl_LeastColours.f leastV
  refine Ev.bind (isWord_ev w hwf) ?_
  by_cases h : isW w = true
  · rw [if_pos h, if_pos h]
    have hw := (isW_iff w).1 h
    have hle := hw.le
    have hc := (classV_eq w hw).1
    have hlen : (classV w).length = w.length / 2 + 1 := by rw [hc, clsOf_len]
    obtain ⟨i, hi, hp, he⟩ := least_there (crossB w) (w.length / 2)
    refine Ev.congr (fun k => ?_) (Ev.now _)
    unfold impl_LeastColours_1.f impl_classes.f
    rw [if_pos h, Option.bind_some, if_pos (by omega), Option.bind_some]
    have := idxZ_fst (classV w) (w.length / 2 + 1) 0 (by omega) ⟨i, Nat.zero_le _, by omega, by rw [hc]; exact hp⟩
    rw [List.drop_zero] at this
    rw [this, he, hc]
  · rw [if_neg h, if_neg h]
    exact Ev.now _
end Go.Proofs.Ytnlhhbnoccobmaa.Pure
end
section
namespace Go.Proofs.Ytnlhhbnoccobmaa.Pure
open Go.RowKit Go.Proofs.Ytnlhhbnoccobmaa.F Go.Proofs.Ytnlhhbnoccobmaa.Mem Go.Proofs.Ytnlhhbnoccobmaa.Chrom Go.Proofs.YtnlhhbnoccobmaaW.PrintWords Go.Proofs.YtnlhhbnoccobmaaW.PrintLast
set_option linter.unusedVariables false
set_option linter.unusedSimpArgs false
theorem few_ok (c : List Int) (hl : c.length ≤ 4096) (hb : ∀ x ∈ c, 0 ≤ x ∧ x ≤ 255) : ∃ w, Ev (fun k => spec_l10Few.f k c) w ∧ w.length ≤ 38 ∧ Fit64 w := by
  obtain ⟨s2, ef, hs⟩ := from_ok c hl hb
  obtain ⟨o, s1, t1, e1, hs1, hl1, hf1⟩ := spoil_ok hs s2
  by_cases h1 : isW o = true
  · by_cases h2 : (o.length : Int) > 10
    · obtain ⟨x, s3, t3, e3, hs3, hx, _⟩ := next_ok hs1 t1 6 (by decide)
      by_cases h3 : x > 0
      · obtain ⟨o2, s4, t4, e4, _, hl4, hf4⟩ := draw_ok hs3 t3
        refine ⟨o2, ?_, by omega, hf4⟩
        unfold spec_l10Few.f
        refine Ev.bind ef (Ev.bind e1 (Ev.bind (is_ev o) (Ev.congr (fun k => if_pos h1) (Ev.congr (fun k => if_pos h2) ?_))))
        dsimp only
        rw [e3]
        simp only [Option.bind_some]
        exact Ev.congr (fun k => if_pos h3) (Ev.bind e4 (Ev.now _))
      · refine ⟨o, ?_, hl1, hf1⟩
        unfold spec_l10Few.f
        refine Ev.bind ef (Ev.bind e1 (Ev.bind (is_ev o) (Ev.congr (fun k => if_pos h1) (Ev.congr (fun k => if_pos h2) ?_))))
        dsimp only
        rw [e3]
        simp only [Option.bind_some]
        exact Ev.congr (fun k => if_neg h3) (Ev.now _)
    · refine ⟨o, ?_, hl1, hf1⟩
      unfold spec_l10Few.f
      exact Ev.bind ef (Ev.bind e1 (Ev.bind (is_ev o) (Ev.congr (fun k => if_pos h1) (Ev.congr (fun k => if_neg h2) (Ev.now _)))))
  · refine ⟨o, ?_, hl1, hf1⟩
    unfold spec_l10Few.f
    exact Ev.bind ef (Ev.bind e1 (Ev.bind (is_ev o) (Ev.congr (fun k => if_neg h1) (Ev.now _))))
theorem wrap_add (a b : Int) : wrap64 (wrap64 a + b) = wrap64 (a + b) := by unfold wrap64; omega
theorem wrap_mul (a x : Int) : wrap64 (wrap64 a * x) = wrap64 (a * x) := by
  have h : wrap64 a = a - 18446744073709551616 * ((a + 9223372036854775808) / 18446744073709551616) := by unfold wrap64; omega
  rw [h]
  generalize (a + 9223372036854775808) / 18446744073709551616 = q
  rw [Int.sub_mul, Int.mul_assoc]
  generalize q * x = z
  generalize a * x = y
  unfold wrap64; omega
theorem val_wrap (x : Int) (p : List Int) : ∀ d, d ≤ p.length → valS x (backTo p d) = wrap64 (pv x (p.drop (p.length - d)))
  | 0, _ => by
    rw [show p.length - 0 = p.length from rfl, List.drop_length, pv]
    show (0 : Int) = wrap64 0
    unfold wrap64; decide
  | d + 1, hd => by
    have ih := val_wrap x p d (by omega)
    rw [backTo, valS_snoc, ih, show p.length - 1 - d = p.length - (d + 1) from by omega]
    have e : p.drop (p.length - (d + 1)) = p.getD (p.length - (d + 1)) 0 :: p.drop (p.length - d) := by
      rw [List.drop_eq_getElem_cons (by omega), List.getD_eq_getElem?_getD, List.getElem?_eq_getElem (by omega), show p.length - (d + 1) + 1 = p.length - d from by omega]; rfl
    rw [e, pv]
    dsimp only
    rw [wrap_mul, wrap_add, Int.mul_comm x, Int.add_comm]
theorem value_pv (x : Int) (p : List Int) : valS x (backTo p p.length) = wrap64 (pv x p) := by
  rw [val_wrap x p p.length (Nat.le_refl _), Nat.sub_self, List.drop_zero]
theorem colours_at (w : List Int) (h : isW w = true) (k : Nat) (hk : k ≤ 8) : valS (k : Int) (backTo (polyV w) (polyV w).length) = ext (crossB w) k (w.length / 2) [] := by
  have hw := (isW_iff w).1 h
  have hle := hw.le
  rw [value_pv, polyV_pv w hw, ← ext_subs]
  have hb := ext_bound (crossB w) k (w.length / 2) []
  have h6 : k ^ (w.length / 2) ≤ 262144 := Nat.le_trans (Nat.pow_le_pow_left hk _) (Nat.le_trans (Nat.pow_le_pow_right (n := 8) (by decide) (show w.length / 2 ≤ 6 by omega)) (by decide))
  generalize ext (crossB w) k (w.length / 2) [] = y at hb ⊢
  unfold wrap64; omega
theorem fst_before (f : Nat → Bool) : ∀ d j i, j ≤ i → i < fst f d j → f i = false
  | 0, j, i, h1, h2 => by rw [fst] at h2; omega
  | d + 1, j, i, h1, h2 => by
    rw [fst] at h2
    by_cases g : f j = true
    · rw [if_pos g] at h2; omega
    · rw [if_neg g] at h2
      by_cases e : i = j
      · subst e; simpa using g
      · exact fst_before f d (j + 1) i (by omega) h2
theorem like_ev (l : List Int) (hl : l.length ≤ 1048576) : Ev (fun k => laws_likeInts.f k l l) true := by
  have key : ∀ d i, i + d = l.length → Ev (fun k => laws_likeInts.l0 k l l (i : Int)) true := by
    intro d
    induction d with
    | zero =>
      intro i hi
      refine Ev_succ ?_
      simp only [laws_likeInts.l0]
      exact Ev.congr (fun k => if_neg (by omega)) (Ev.now _)
    | succ d ih =>
      intro i hi
      refine Ev_succ ?_
      simp only [laws_likeInts.l0]
      refine Ev.congr (fun k => if_pos (by omega)) (Ev.congr (fun k => if_pos (by omega)) (Ev.congr (fun k => if_pos (by omega)) (Ev.congr (fun k => if_pos trivial) ?_)))
      rw [wS (n := i) (by omega)]
      exact ih (i + 1) (by omega)
  unfold laws_likeInts.f
  exact Ev.congr (fun k => if_pos rfl) (key l.length 0 (by omega))
theorem col_end (x5 x6 : Int) (h : x6 = 0 → 0 ≤ x5) : Ev (fun _ : Nat => if x6 = 0 then some (decide (x5 ≥ 0)) else some true) true := by
  by_cases g : x6 = 0
  · refine Ev.congr (fun k => if_pos g) ?_
    rw [decide_eq_true (show x5 ≥ 0 from h g)]; exact Ev.now _
  · exact Ev.congr (fun k => if_neg g) (Ev.now _)
theorem col_least (u : List Int) (hu : Fit64 u) (x5 x6 : Int) (h : x6 = 0 → 0 ≤ x5) : Ev (fun k => laws_FnColourings.j5 k x5 x6 u (leastV u).1 (leastV u).2) true := by
  refine Ev_succ ?_
  simp only [laws_FnColourings.j5]
  by_cases hw : isW u = true
  · have hle := ((isW_iff u).1 hw).le
    obtain ⟨v, hv⟩ : ∃ v, v = fst (fun k => ext (crossB u) k (u.length / 2) [] != 0) (u.length / 2) 0 := ⟨_, rfl⟩
    have hl : leastV u = ((v : Int), 0) := by unfold leastV; rw [if_pos hw, hv]
    have hvn : v ≤ u.length / 2 := by rw [hv]; have := fst_le (fun k => ext (crossB u) k (u.length / 2) [] != 0) (u.length / 2) 0; omega
    have hc : ∀ k : Nat, k ≤ 8 → countV u (k : Int) = (ext (crossB u) k (u.length / 2) [], 0) := fun k hk => by
      unfold countV; rw [if_pos hw, if_pos (decide_eq_true ⟨by omega, by omega⟩), colours_at u hw k hk]
    have hpos : 0 < ext (crossB u) v (u.length / 2) [] := by
      have hb := ext_bound (crossB u) v (u.length / 2) []
      by_cases g : v < u.length / 2
      · have := fst_hit (fun k => ext (crossB u) k (u.length / 2) [] != 0) (u.length / 2) 0 (by rw [← hv]; omega)
        rw [← hv] at this
        have : ext (crossB u) v (u.length / 2) [] ≠ 0 := by simpa using this
        omega
      · have e : v = u.length / 2 := by omega
        rw [e]
        exact ext_pos (crossB u) (u.length / 2) (u.length / 2) 0 (by omega)
    rw [hl]
    dsimp only
    refine Ev.congr (fun k => if_pos rfl) (Ev_succ ?_)
    simp only [laws_FnColourings.j6]
    refine Ev.congr (fun k => if_pos (decide_eq_true (show (v : Int) ≤ 8 by omega))) ?_
    have h1 := implCount_ev u (v : Int) hu
    rw [hc v (by omega)] at h1
    refine Ev.bind h1 (Ev.congr (fun k => if_pos rfl) (Ev_succ ?_))
    simp only [laws_FnColourings.j7]
    refine Ev.congr (fun k => if_neg (by rw [decide_eq_true_eq]; omega)) ?_
    by_cases g : (v : Int) > 0
    · refine Ev.congr (fun k => if_pos g) ?_
      obtain ⟨m, rfl⟩ : ∃ m, v = m + 1 := ⟨v - 1, by omega⟩
      have e : wrap64 (((m + 1 : Nat) : Int) - 1) = (m : Int) := by unfold wrap64; omega
      rw [e]
      have h2 := implCount_ev u (m : Int) hu
      have hz : ext (crossB u) m (u.length / 2) [] = 0 := by
        have := fst_before (fun k => ext (crossB u) k (u.length / 2) [] != 0) (u.length / 2) 0 m (by omega) (by rw [← hv]; omega)
        simpa using this
      rw [hc m (by omega), hz] at h2
      exact Ev.bind h2 (Ev.congr (fun k => if_pos rfl) (Ev.congr (fun k => if_pos rfl) (col_end x5 x6 h)))
    · exact Ev.congr (fun k => if_neg g) (col_end x5 x6 h)
  · have hl : leastV u = (0, 1) := by unfold leastV; rw [if_neg hw]
    rw [hl]
    dsimp only
    refine Ev.congr (fun k => if_neg (by decide)) (Ev_succ ?_)
    simp only [laws_FnColourings.j6]
    exact Ev.congr (fun k => if_neg (by simp)) (col_end x5 x6 h)
theorem col_values (v u : List Int) (hv : Fit64 v) (hw : isW v = true) (hu : Fit64 u) (x5 x6 : Int) (h : x6 = 0 → 0 ≤ x5) : Ev (fun k => laws_FnColourings.l0 k x5 x6 v (polyV v) u (leastV u).1 (leastV u).2 0) true := by
  have hpl := polyV_le v hw
  have inner : ∀ x : Nat, x ≤ 3 → Ev (fun k => laws_FnColourings.l0 k x5 x6 v (polyV v) u (leastV u).1 (leastV u).2 ((x + 1 : Nat) : Int)) true → ∀ m d, d + m = (polyV v).length → Ev (fun k => laws_FnColourings.l1 k x5 x6 v (polyV v) u (leastV u).1 (leastV u).2 (x : Int) (valS (x : Int) (backTo (polyV v) d)) ((m : Int) - 1)) true := by
    intro x hx hnext m
    induction m with
    | zero =>
      intro d hd
      obtain rfl : d = (polyV v).length := by omega
      refine Ev_succ ?_
      simp only [laws_FnColourings.l1]
      refine Ev.congr (fun k => if_neg (by omega)) ?_
      have h1 := implCount_ev v (x : Int) hv
      rw [show countV v (x : Int) = (valS (x : Int) (backTo (polyV v) (polyV v).length), 0) from by unfold countV; rw [if_pos hw, if_pos (decide_eq_true ⟨by omega, by omega⟩)]] at h1
      refine Ev.bind h1 (Ev.congr (fun k => if_pos rfl) (Ev.congr (fun k => if_pos rfl) ?_))
      rw [wS (n := x) (by omega)]
      exact hnext
    | succ m ih =>
      intro d hd
      have e : (((m + 1 : Nat) : Int) - 1) = (m : Int) := by omega
      rw [e]
      refine Ev_succ ?_
      simp only [laws_FnColourings.l1]
      refine Ev.congr (fun k => if_pos (by omega)) (Ev.congr (fun k => if_pos (by omega)) (Ev.congr (fun k => if_pos (by omega)) ?_))
      have h2 := ih (d + 1) (by omega)
      rw [backTo, valS_snoc, show (polyV v).length - 1 - d = m from by omega] at h2
      rw [rdN, show wrap64 ((m : Int) - 1) = (m : Int) - 1 from by unfold wrap64; omega]
      exact h2
  have outer : ∀ d x : Nat, x + d = 4 → Ev (fun k => laws_FnColourings.l0 k x5 x6 v (polyV v) u (leastV u).1 (leastV u).2 (x : Int)) true := by
    intro d
    induction d with
    | zero =>
      intro x hx
      refine Ev_succ ?_
      simp only [laws_FnColourings.l0]
      exact Ev.congr (fun k => if_neg (by omega)) (col_least u hu x5 x6 h)
    | succ d ih =>
      intro x hx
      refine Ev_succ ?_
      simp only [laws_FnColourings.l0]
      refine Ev.congr (fun k => if_pos (by omega)) ?_
      rw [show wrap64 (((polyV v).length : Int) - 1) = ((polyV v).length : Int) - 1 from by unfold wrap64; omega]
      exact inner x (by omega) (ih (x + 1) (by omega)) (polyV v).length 0 (by omega)
  exact outer 4 0 (by omega)
theorem FnColourings : laws_FnColourings.Pure := by
  intro c hm hl hw
  refine Ev.rounds ?_
  unfold laws_FnColourings.f laws_big.f
  simp only [Option.bind_some]
  by_cases hb : (c.length : Int) > 4096
  · exact Ev.congr (fun _ => if_pos (decide_eq_true hb)) (Ev.now _)
  refine Ev.congr (fun _ => if_neg (by rw [decide_eq_true_eq]; exact hb)) ?_
  have hl4 : c.length ≤ 4096 := by omega
  have hby : ∀ x ∈ c, 0 ≤ x ∧ x ≤ 255 := fun x hx => by
    have := hw x hx
    simp only [Lit.wf, Bool.and_eq_true, decide_eq_true_eq] at this
    exact ⟨this.1, this.2⟩
  obtain ⟨s2, ef, hs⟩ := from_ok c hl4 hby
  obtain ⟨v, ev, hvl, hvf⟩ := few_ok c hl4 hby
  obtain ⟨kk, sk, tk, ek, hsk, hk0, hk1⟩ := next_ok hs s2 10 (by decide)
  obtain ⟨u, su, tu, eu, hsu, hul, huf⟩ := spoil_ok hs s2
  have d1 : Ev (fun k => spec_DrawCountColourings.f k c) (v, kk) := by
    unfold spec_DrawCountColourings.f
    refine Ev.bind ev (Ev.bind ef ?_)
    dsimp only
    rw [ek]
    exact Ev.now _
  have d2 : Ev (fun k => spec_DrawColouringPolynomial.f k c) v := by
    unfold spec_DrawColouringPolynomial.f
    exact Ev.bind ev (Ev.now _)
  have d3 : Ev (fun k => spec_DrawLeastColours.f k c) u := by
    unfold spec_DrawLeastColours.f
    exact Ev.bind ef (Ev.bind eu (Ev.now _))
  have hx : (countV v kk).2 = 0 → 0 ≤ (countV v kk).1 := by
    unfold countV
    by_cases g : isW v = true
    · rw [if_pos g]
      by_cases q : decide (0 ≤ kk ∧ kk ≤ 8) = true
      · rw [if_pos q]
        have q' := of_decide_eq_true q
        obtain ⟨k, rfl⟩ : ∃ k : Nat, kk = (k : Int) := ⟨kk.toNat, by omega⟩
        intro _
        rw [colours_at v g k (by omega)]
        exact (ext_bound _ _ _ _).1
      · rw [if_neg q]; intro e; exact absurd e (by decide)
    · rw [if_neg g]; intro e; exact absurd e (by decide)
  refine Ev.bind d1 (Ev.bind (implCount_ev v kk hvf) (Ev.bind (specCount_ev v kk) (Ev.congr (fun k => if_pos rfl) (Ev_succ ?_))))
  simp only [laws_FnColourings.j0, bne_self_eq_false, Bool.false_eq_true, if_false]
  refine Ev.bind d2 (Ev.bind (implCol_ev v hvf) (Ev.bind (specCol_ev v) (Ev.congr (fun k => if_pos rfl) (Ev.bind (like_ev _ (colV_len v)) (Ev_succ ?_)))))
  simp only [laws_FnColourings.j1, Bool.not_true, Bool.false_eq_true, if_false]
  refine Ev.bind d3 (Ev.bind (implLea_ev u huf) (Ev.bind (specLea_ev u) (Ev.congr (fun k => if_pos rfl) (Ev_succ ?_))))
  simp only [laws_FnColourings.j2, bne_self_eq_false, Bool.false_eq_true, if_false]
  by_cases g : isW v = true
  · have e : colV v = (polyV v, 0) := by unfold colV; rw [if_pos g]
    rw [e]
    exact Ev.congr (fun k => if_pos rfl) (col_values v u hvf g huf _ _ hx)
  · have e : colV v = ([], 1) := by unfold colV; rw [if_neg g]
    rw [e]
    exact Ev.congr (fun k => if_neg (by decide)) (col_least u huf _ _ hx)
end Go.Proofs.Ytnlhhbnoccobmaa.Pure
end
