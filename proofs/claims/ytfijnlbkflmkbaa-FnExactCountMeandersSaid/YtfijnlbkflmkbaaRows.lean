/-
  No cell of these rows narrows 'for every input' (looked for: loops, veiled, ifaces, maps, wideKeys, modest, calm, conditions, laid).
  DERIVED. THE GIVEN ROWS OF THIS SEAT. 23 by the template 'for every input the law returns true; each argument reads behind the call as it read before'; 0 by the template 'total and deterministic' (their statements: YtfijnlbkflmkbaaTotals.lean).
  GIVEN WITH THE SEED: the statements are not yours to turn. If you find one false, say at which input.
  Laid BY PROGRAM, IN A SANDBOX (cutbox-rows.mjs): the forced cells as the released guide's own fill.sh prints them over the translation d1166d1f2da5d80b… (all of the seat's roots in one cut). By AI agents, Wed Nov 11 2026. No macro, syntax, notation, axiom, sorry.
-/
import Derived.Test.YtfijnlbkflmkbaaChecked
import GoSem.Claim
import GoSem.ClaimJoined
import GoSem.ClaimMapViews
import Derived.JoinedTies
import Derived.KernelRfl
namespace Go.Proofs.Ytfijnlbkflmkbaa
/- THE CELL 'sum', in the pinned program and in every row, IS THE sha256 OF THE DUMP (.gsa) THAT YtfijnlbkflmkbaaProg.lean LOADS. Nothing in Lean hashes anything: it is a label: what it is worth is what the hold of that sum in a sandbox is worth. -/
noncomputable def Try.pinned : Pinned := { name := "ytfijnlbkflmkbaa", sum := "d1166d1f2da5d80b0837a69054672a7de2dfd8553a6f4522c14b842cd8de4645", checked := Try.checked }
namespace Rows
def none {H : Type} : Left H := { results := [], args := [] }

/-- 'laws.FnExactPolygonNumbers': WHATEVER THE INPUT: true; the input reads as it did. -/
def fnExactPolygonNumbersSpec : ChangeSpec := { name := "fnExactPolygonNumbers", fn := fun _ => fun
  | [d] => { results := [.lit (.bool true)], args := [d] }
  | _ => none }
def fnExactPolygonNumbersRow : OpenClaim := { program := "ytfijnlbkflmkbaa", sum := "d1166d1f2da5d80b0837a69054672a7de2dfd8553a6f4522c14b842cd8de4645", func := "loop.example/g01303/laws.FnExactPolygonNumbers", spec := "fnExactPolygonNumbers", recurses := true, apart := false }
def FnExactPolygonNumbersSaid : Prop := fnExactPolygonNumbersRow.holds Try.pinned (OpenSpec.ofChange fnExactPolygonNumbersSpec)

/-- ITS FALSE NEIGHBOUR: 'it returns false'. Refute it at one input. -/
def fnExactPolygonNumbersWrong : ChangeSpec := { name := "fnExactPolygonNumbers", fn := fun _ => fun
  | [d] => { results := [.lit (.bool false)], args := [d] }
  | _ => none }
def FnExactPolygonNumbersWrongFalsely : Prop := fnExactPolygonNumbersRow.holds Try.pinned (OpenSpec.ofChange fnExactPolygonNumbersWrong)

/-- 'laws.FnExactIsWithoutCrossings': WHATEVER THE INPUT: true; the input reads as it did. -/
def fnExactIsWithoutCrossingsSpec : ChangeSpec := { name := "fnExactIsWithoutCrossings", fn := fun _ => fun
  | [d] => { results := [.lit (.bool true)], args := [d] }
  | _ => none }
def fnExactIsWithoutCrossingsRow : OpenClaim := { program := "ytfijnlbkflmkbaa", sum := "d1166d1f2da5d80b0837a69054672a7de2dfd8553a6f4522c14b842cd8de4645", func := "loop.example/g01303/laws.FnExactIsWithoutCrossings", spec := "fnExactIsWithoutCrossings", unfollowed := true, recurses := true, apart := false }
def FnExactIsWithoutCrossingsSaid : Prop := fnExactIsWithoutCrossingsRow.holds Try.pinned (OpenSpec.ofChange fnExactIsWithoutCrossingsSpec)

/-- ITS FALSE NEIGHBOUR: 'it returns false'. Refute it at one input. -/
def fnExactIsWithoutCrossingsWrong : ChangeSpec := { name := "fnExactIsWithoutCrossings", fn := fun _ => fun
  | [d] => { results := [.lit (.bool false)], args := [d] }
  | _ => none }
def FnExactIsWithoutCrossingsWrongFalsely : Prop := fnExactIsWithoutCrossingsRow.holds Try.pinned (OpenSpec.ofChange fnExactIsWithoutCrossingsWrong)

/-- 'laws.FnExactIsShare': WHATEVER THE INPUT: true; the input reads as it did. -/
def fnExactIsShareSpec : ChangeSpec := { name := "fnExactIsShare", fn := fun _ => fun
  | [d1, d2, d3, d4, d5] => { results := [.lit (.bool true)], args := [d1, d2, d3, d4, d5] }
  | _ => none }
def fnExactIsShareRow : OpenClaim := { program := "ytfijnlbkflmkbaa", sum := "d1166d1f2da5d80b0837a69054672a7de2dfd8553a6f4522c14b842cd8de4645", func := "loop.example/g01303/laws.FnExactIsShare", spec := "fnExactIsShare", apart := false }
def FnExactIsShareSaid : Prop := fnExactIsShareRow.holds Try.pinned (OpenSpec.ofChange fnExactIsShareSpec)

/-- ITS FALSE NEIGHBOUR: 'it returns false'. Refute it at one input. -/
def fnExactIsShareWrong : ChangeSpec := { name := "fnExactIsShare", fn := fun _ => fun
  | [d1, d2, d3, d4, d5] => { results := [.lit (.bool false)], args := [d1, d2, d3, d4, d5] }
  | _ => none }
def FnExactIsShareWrongFalsely : Prop := fnExactIsShareRow.holds Try.pinned (OpenSpec.ofChange fnExactIsShareWrong)

/-- 'laws.FnExactCrossingDegrees': WHATEVER THE INPUT: true; the input reads as it did. -/
def fnExactCrossingDegreesSpec : ChangeSpec := { name := "fnExactCrossingDegrees", fn := fun _ => fun
  | [d] => { results := [.lit (.bool true)], args := [d] }
  | _ => none }
def fnExactCrossingDegreesRow : OpenClaim := { program := "ytfijnlbkflmkbaa", sum := "d1166d1f2da5d80b0837a69054672a7de2dfd8553a6f4522c14b842cd8de4645", func := "loop.example/g01303/laws.FnExactCrossingDegrees", spec := "fnExactCrossingDegrees", unfollowed := true, recurses := true, apart := false }
def FnExactCrossingDegreesSaid : Prop := fnExactCrossingDegreesRow.holds Try.pinned (OpenSpec.ofChange fnExactCrossingDegreesSpec)

/-- ITS FALSE NEIGHBOUR: 'it returns false'. Refute it at one input. -/
def fnExactCrossingDegreesWrong : ChangeSpec := { name := "fnExactCrossingDegrees", fn := fun _ => fun
  | [d] => { results := [.lit (.bool false)], args := [d] }
  | _ => none }
def FnExactCrossingDegreesWrongFalsely : Prop := fnExactCrossingDegreesRow.holds Try.pinned (OpenSpec.ofChange fnExactCrossingDegreesWrong)

/-- 'laws.FnExactCountCurves': WHATEVER THE INPUT: true; the input reads as it did. -/
def fnExactCountCurvesSpec : ChangeSpec := { name := "fnExactCountCurves", fn := fun _ => fun
  | [d1, d2] => { results := [.lit (.bool true)], args := [d1, d2] }
  | _ => none }
def fnExactCountCurvesRow : OpenClaim := { program := "ytfijnlbkflmkbaa", sum := "d1166d1f2da5d80b0837a69054672a7de2dfd8553a6f4522c14b842cd8de4645", func := "loop.example/g01303/laws.FnExactCountCurves", spec := "fnExactCountCurves", unfollowed := true, recurses := true, apart := false }
def FnExactCountCurvesSaid : Prop := fnExactCountCurvesRow.holds Try.pinned (OpenSpec.ofChange fnExactCountCurvesSpec)

/-- ITS FALSE NEIGHBOUR: 'it returns false'. Refute it at one input. -/
def fnExactCountCurvesWrong : ChangeSpec := { name := "fnExactCountCurves", fn := fun _ => fun
  | [d1, d2] => { results := [.lit (.bool false)], args := [d1, d2] }
  | _ => none }
def FnExactCountCurvesWrongFalsely : Prop := fnExactCountCurvesRow.holds Try.pinned (OpenSpec.ofChange fnExactCountCurvesWrong)

/-- 'laws.FnExactCountMeanders': WHATEVER THE INPUT: true; the input reads as it did. -/
def fnExactCountMeandersSpec : ChangeSpec := { name := "fnExactCountMeanders", fn := fun _ => fun
  | [d] => { results := [.lit (.bool true)], args := [d] }
  | _ => none }
def fnExactCountMeandersRow : OpenClaim := { program := "ytfijnlbkflmkbaa", sum := "d1166d1f2da5d80b0837a69054672a7de2dfd8553a6f4522c14b842cd8de4645", func := "loop.example/g01303/laws.FnExactCountMeanders", spec := "fnExactCountMeanders", recurses := true, apart := false }
def FnExactCountMeandersSaid : Prop := fnExactCountMeandersRow.holds Try.pinned (OpenSpec.ofChange fnExactCountMeandersSpec)

/-- ITS FALSE NEIGHBOUR: 'it returns false'. Refute it at one input. -/
def fnExactCountMeandersWrong : ChangeSpec := { name := "fnExactCountMeanders", fn := fun _ => fun
  | [d] => { results := [.lit (.bool false)], args := [d] }
  | _ => none }
def FnExactCountMeandersWrongFalsely : Prop := fnExactCountMeandersRow.holds Try.pinned (OpenSpec.ofChange fnExactCountMeandersWrong)

/-- 'laws.FnExactLocalComplement': WHATEVER THE INPUT: true; the input reads as it did. -/
def fnExactLocalComplementSpec : ChangeSpec := { name := "fnExactLocalComplement", fn := fun _ => fun
  | [d1, d2] => { results := [.lit (.bool true)], args := [d1, d2] }
  | _ => none }
def fnExactLocalComplementRow : OpenClaim := { program := "ytfijnlbkflmkbaa", sum := "d1166d1f2da5d80b0837a69054672a7de2dfd8553a6f4522c14b842cd8de4645", func := "loop.example/g01303/laws.FnExactLocalComplement", spec := "fnExactLocalComplement", apart := false }
def FnExactLocalComplementSaid : Prop := fnExactLocalComplementRow.holds Try.pinned (OpenSpec.ofChange fnExactLocalComplementSpec)

/-- ITS FALSE NEIGHBOUR: 'it returns false'. Refute it at one input. -/
def fnExactLocalComplementWrong : ChangeSpec := { name := "fnExactLocalComplement", fn := fun _ => fun
  | [d1, d2] => { results := [.lit (.bool false)], args := [d1, d2] }
  | _ => none }
def FnExactLocalComplementWrongFalsely : Prop := fnExactLocalComplementRow.holds Try.pinned (OpenSpec.ofChange fnExactLocalComplementWrong)

/-- 'laws.FnExactMatchingNumbers': WHATEVER THE INPUT: true; the input reads as it did. -/
def fnExactMatchingNumbersSpec : ChangeSpec := { name := "fnExactMatchingNumbers", fn := fun _ => fun
  | [d] => { results := [.lit (.bool true)], args := [d] }
  | _ => none }
def fnExactMatchingNumbersRow : OpenClaim := { program := "ytfijnlbkflmkbaa", sum := "d1166d1f2da5d80b0837a69054672a7de2dfd8553a6f4522c14b842cd8de4645", func := "loop.example/g01303/laws.FnExactMatchingNumbers", spec := "fnExactMatchingNumbers", unfollowed := true, recurses := true, apart := false }
def FnExactMatchingNumbersSaid : Prop := fnExactMatchingNumbersRow.holds Try.pinned (OpenSpec.ofChange fnExactMatchingNumbersSpec)

/-- ITS FALSE NEIGHBOUR: 'it returns false'. Refute it at one input. -/
def fnExactMatchingNumbersWrong : ChangeSpec := { name := "fnExactMatchingNumbers", fn := fun _ => fun
  | [d] => { results := [.lit (.bool false)], args := [d] }
  | _ => none }
def FnExactMatchingNumbersWrongFalsely : Prop := fnExactMatchingNumbersRow.holds Try.pinned (OpenSpec.ofChange fnExactMatchingNumbersWrong)

/-- 'laws.FnExactLongestChain': WHATEVER THE INPUT: true; the input reads as it did. -/
def fnExactLongestChainSpec : ChangeSpec := { name := "fnExactLongestChain", fn := fun _ => fun
  | [d] => { results := [.lit (.bool true)], args := [d] }
  | _ => none }
def fnExactLongestChainRow : OpenClaim := { program := "ytfijnlbkflmkbaa", sum := "d1166d1f2da5d80b0837a69054672a7de2dfd8553a6f4522c14b842cd8de4645", func := "loop.example/g01303/laws.FnExactLongestChain", spec := "fnExactLongestChain", unfollowed := true, recurses := true, apart := false }
def FnExactLongestChainSaid : Prop := fnExactLongestChainRow.holds Try.pinned (OpenSpec.ofChange fnExactLongestChainSpec)

/-- ITS FALSE NEIGHBOUR: 'it returns false'. Refute it at one input. -/
def fnExactLongestChainWrong : ChangeSpec := { name := "fnExactLongestChain", fn := fun _ => fun
  | [d] => { results := [.lit (.bool false)], args := [d] }
  | _ => none }
def FnExactLongestChainWrongFalsely : Prop := fnExactLongestChainRow.holds Try.pinned (OpenSpec.ofChange fnExactLongestChainWrong)

/-- 'laws.FnExactPivotWord': WHATEVER THE INPUT: true; the input reads as it did. -/
def fnExactPivotWordSpec : ChangeSpec := { name := "fnExactPivotWord", fn := fun _ => fun
  | [d1, d2, d3] => { results := [.lit (.bool true)], args := [d1, d2, d3] }
  | _ => none }
def fnExactPivotWordRow : OpenClaim := { program := "ytfijnlbkflmkbaa", sum := "d1166d1f2da5d80b0837a69054672a7de2dfd8553a6f4522c14b842cd8de4645", func := "loop.example/g01303/laws.FnExactPivotWord", spec := "fnExactPivotWord", apart := false }
def FnExactPivotWordSaid : Prop := fnExactPivotWordRow.holds Try.pinned (OpenSpec.ofChange fnExactPivotWordSpec)

/-- ITS FALSE NEIGHBOUR: 'it returns false'. Refute it at one input. -/
def fnExactPivotWordWrong : ChangeSpec := { name := "fnExactPivotWord", fn := fun _ => fun
  | [d1, d2, d3] => { results := [.lit (.bool false)], args := [d1, d2, d3] }
  | _ => none }
def FnExactPivotWordWrongFalsely : Prop := fnExactPivotWordRow.holds Try.pinned (OpenSpec.ofChange fnExactPivotWordWrong)

/-- 'laws.FnExactSharesOf': WHATEVER THE INPUT: true; the input reads as it did. -/
def fnExactSharesOfSpec : ChangeSpec := { name := "fnExactSharesOf", fn := fun _ => fun
  | [d] => { results := [.lit (.bool true)], args := [d] }
  | _ => none }
def fnExactSharesOfRow : OpenClaim := { program := "ytfijnlbkflmkbaa", sum := "d1166d1f2da5d80b0837a69054672a7de2dfd8553a6f4522c14b842cd8de4645", func := "loop.example/g01303/laws.FnExactSharesOf", spec := "fnExactSharesOf", apart := false }
def FnExactSharesOfSaid : Prop := fnExactSharesOfRow.holds Try.pinned (OpenSpec.ofChange fnExactSharesOfSpec)

/-- ITS FALSE NEIGHBOUR: 'it returns false'. Refute it at one input. -/
def fnExactSharesOfWrong : ChangeSpec := { name := "fnExactSharesOf", fn := fun _ => fun
  | [d] => { results := [.lit (.bool false)], args := [d] }
  | _ => none }
def FnExactSharesOfWrongFalsely : Prop := fnExactSharesOfRow.holds Try.pinned (OpenSpec.ofChange fnExactSharesOfWrong)

/-- 'laws.FnExactLeastColours': WHATEVER THE INPUT: true; the input reads as it did. -/
def fnExactLeastColoursSpec : ChangeSpec := { name := "fnExactLeastColours", fn := fun _ => fun
  | [d] => { results := [.lit (.bool true)], args := [d] }
  | _ => none }
def fnExactLeastColoursRow : OpenClaim := { program := "ytfijnlbkflmkbaa", sum := "d1166d1f2da5d80b0837a69054672a7de2dfd8553a6f4522c14b842cd8de4645", func := "loop.example/g01303/laws.FnExactLeastColours", spec := "fnExactLeastColours", unfollowed := true, recurses := true, apart := false }
def FnExactLeastColoursSaid : Prop := fnExactLeastColoursRow.holds Try.pinned (OpenSpec.ofChange fnExactLeastColoursSpec)

/-- ITS FALSE NEIGHBOUR: 'it returns false'. Refute it at one input. -/
def fnExactLeastColoursWrong : ChangeSpec := { name := "fnExactLeastColours", fn := fun _ => fun
  | [d] => { results := [.lit (.bool false)], args := [d] }
  | _ => none }
def FnExactLeastColoursWrongFalsely : Prop := fnExactLeastColoursRow.holds Try.pinned (OpenSpec.ofChange fnExactLeastColoursWrong)

/-- 'laws.FnExactCliqueNumbers': WHATEVER THE INPUT: true; the input reads as it did. -/
def fnExactCliqueNumbersSpec : ChangeSpec := { name := "fnExactCliqueNumbers", fn := fun _ => fun
  | [d] => { results := [.lit (.bool true)], args := [d] }
  | _ => none }
def fnExactCliqueNumbersRow : OpenClaim := { program := "ytfijnlbkflmkbaa", sum := "d1166d1f2da5d80b0837a69054672a7de2dfd8553a6f4522c14b842cd8de4645", func := "loop.example/g01303/laws.FnExactCliqueNumbers", spec := "fnExactCliqueNumbers", unfollowed := true, recurses := true, apart := false }
def FnExactCliqueNumbersSaid : Prop := fnExactCliqueNumbersRow.holds Try.pinned (OpenSpec.ofChange fnExactCliqueNumbersSpec)

/-- ITS FALSE NEIGHBOUR: 'it returns false'. Refute it at one input. -/
def fnExactCliqueNumbersWrong : ChangeSpec := { name := "fnExactCliqueNumbers", fn := fun _ => fun
  | [d] => { results := [.lit (.bool false)], args := [d] }
  | _ => none }
def FnExactCliqueNumbersWrongFalsely : Prop := fnExactCliqueNumbersRow.holds Try.pinned (OpenSpec.ofChange fnExactCliqueNumbersWrong)

/-- 'laws.FnExactIndependentNumbers': WHATEVER THE INPUT: true; the input reads as it did. -/
def fnExactIndependentNumbersSpec : ChangeSpec := { name := "fnExactIndependentNumbers", fn := fun _ => fun
  | [d] => { results := [.lit (.bool true)], args := [d] }
  | _ => none }
def fnExactIndependentNumbersRow : OpenClaim := { program := "ytfijnlbkflmkbaa", sum := "d1166d1f2da5d80b0837a69054672a7de2dfd8553a6f4522c14b842cd8de4645", func := "loop.example/g01303/laws.FnExactIndependentNumbers", spec := "fnExactIndependentNumbers", unfollowed := true, recurses := true, apart := false }
def FnExactIndependentNumbersSaid : Prop := fnExactIndependentNumbersRow.holds Try.pinned (OpenSpec.ofChange fnExactIndependentNumbersSpec)

/-- ITS FALSE NEIGHBOUR: 'it returns false'. Refute it at one input. -/
def fnExactIndependentNumbersWrong : ChangeSpec := { name := "fnExactIndependentNumbers", fn := fun _ => fun
  | [d] => { results := [.lit (.bool false)], args := [d] }
  | _ => none }
def FnExactIndependentNumbersWrongFalsely : Prop := fnExactIndependentNumbersRow.holds Try.pinned (OpenSpec.ofChange fnExactIndependentNumbersWrong)

/-- 'laws.FnExactIsMeander': WHATEVER THE INPUT: true; the input reads as it did. -/
def fnExactIsMeanderSpec : ChangeSpec := { name := "fnExactIsMeander", fn := fun _ => fun
  | [d1, d2] => { results := [.lit (.bool true)], args := [d1, d2] }
  | _ => none }
def fnExactIsMeanderRow : OpenClaim := { program := "ytfijnlbkflmkbaa", sum := "d1166d1f2da5d80b0837a69054672a7de2dfd8553a6f4522c14b842cd8de4645", func := "loop.example/g01303/laws.FnExactIsMeander", spec := "fnExactIsMeander", unfollowed := true, recurses := true, apart := false }
def FnExactIsMeanderSaid : Prop := fnExactIsMeanderRow.holds Try.pinned (OpenSpec.ofChange fnExactIsMeanderSpec)

/-- ITS FALSE NEIGHBOUR: 'it returns false'. Refute it at one input. -/
def fnExactIsMeanderWrong : ChangeSpec := { name := "fnExactIsMeander", fn := fun _ => fun
  | [d1, d2] => { results := [.lit (.bool false)], args := [d1, d2] }
  | _ => none }
def FnExactIsMeanderWrongFalsely : Prop := fnExactIsMeanderRow.holds Try.pinned (OpenSpec.ofChange fnExactIsMeanderWrong)

/-- 'laws.FnExactMutateWord': WHATEVER THE INPUT: true; the input reads as it did. -/
def fnExactMutateWordSpec : ChangeSpec := { name := "fnExactMutateWord", fn := fun _ => fun
  | [d1, d2, d3, d4, d5, d6] => { results := [.lit (.bool true)], args := [d1, d2, d3, d4, d5, d6] }
  | _ => none }
def fnExactMutateWordRow : OpenClaim := { program := "ytfijnlbkflmkbaa", sum := "d1166d1f2da5d80b0837a69054672a7de2dfd8553a6f4522c14b842cd8de4645", func := "loop.example/g01303/laws.FnExactMutateWord", spec := "fnExactMutateWord", apart := false }
def FnExactMutateWordSaid : Prop := fnExactMutateWordRow.holds Try.pinned (OpenSpec.ofChange fnExactMutateWordSpec)

/-- ITS FALSE NEIGHBOUR: 'it returns false'. Refute it at one input. -/
def fnExactMutateWordWrong : ChangeSpec := { name := "fnExactMutateWord", fn := fun _ => fun
  | [d1, d2, d3, d4, d5, d6] => { results := [.lit (.bool false)], args := [d1, d2, d3, d4, d5, d6] }
  | _ => none }
def FnExactMutateWordWrongFalsely : Prop := fnExactMutateWordRow.holds Try.pinned (OpenSpec.ofChange fnExactMutateWordWrong)

/-- 'laws.FnExactAreAlikeGraphs': WHATEVER THE INPUT: true; the input reads as it did. -/
def fnExactAreAlikeGraphsSpec : ChangeSpec := { name := "fnExactAreAlikeGraphs", fn := fun _ => fun
  | [d1, d2] => { results := [.lit (.bool true)], args := [d1, d2] }
  | _ => none }
def fnExactAreAlikeGraphsRow : OpenClaim := { program := "ytfijnlbkflmkbaa", sum := "d1166d1f2da5d80b0837a69054672a7de2dfd8553a6f4522c14b842cd8de4645", func := "loop.example/g01303/laws.FnExactAreAlikeGraphs", spec := "fnExactAreAlikeGraphs", unfollowed := true, recurses := true, apart := false }
def FnExactAreAlikeGraphsSaid : Prop := fnExactAreAlikeGraphsRow.holds Try.pinned (OpenSpec.ofChange fnExactAreAlikeGraphsSpec)

/-- ITS FALSE NEIGHBOUR: 'it returns false'. Refute it at one input. -/
def fnExactAreAlikeGraphsWrong : ChangeSpec := { name := "fnExactAreAlikeGraphs", fn := fun _ => fun
  | [d1, d2] => { results := [.lit (.bool false)], args := [d1, d2] }
  | _ => none }
def FnExactAreAlikeGraphsWrongFalsely : Prop := fnExactAreAlikeGraphsRow.holds Try.pinned (OpenSpec.ofChange fnExactAreAlikeGraphsWrong)

/-- 'laws.FnExactColouringPolynomial': WHATEVER THE INPUT: true; the input reads as it did. -/
def fnExactColouringPolynomialSpec : ChangeSpec := { name := "fnExactColouringPolynomial", fn := fun _ => fun
  | [d] => { results := [.lit (.bool true)], args := [d] }
  | _ => none }
def fnExactColouringPolynomialRow : OpenClaim := { program := "ytfijnlbkflmkbaa", sum := "d1166d1f2da5d80b0837a69054672a7de2dfd8553a6f4522c14b842cd8de4645", func := "loop.example/g01303/laws.FnExactColouringPolynomial", spec := "fnExactColouringPolynomial", unfollowed := true, recurses := true, apart := false }
def FnExactColouringPolynomialSaid : Prop := fnExactColouringPolynomialRow.holds Try.pinned (OpenSpec.ofChange fnExactColouringPolynomialSpec)

/-- ITS FALSE NEIGHBOUR: 'it returns false'. Refute it at one input. -/
def fnExactColouringPolynomialWrong : ChangeSpec := { name := "fnExactColouringPolynomial", fn := fun _ => fun
  | [d] => { results := [.lit (.bool false)], args := [d] }
  | _ => none }
def FnExactColouringPolynomialWrongFalsely : Prop := fnExactColouringPolynomialRow.holds Try.pinned (OpenSpec.ofChange fnExactColouringPolynomialWrong)

/-- 'laws.FnExactCountColourings': WHATEVER THE INPUT: true; the input reads as it did. -/
def fnExactCountColouringsSpec : ChangeSpec := { name := "fnExactCountColourings", fn := fun _ => fun
  | [d1, d2] => { results := [.lit (.bool true)], args := [d1, d2] }
  | _ => none }
def fnExactCountColouringsRow : OpenClaim := { program := "ytfijnlbkflmkbaa", sum := "d1166d1f2da5d80b0837a69054672a7de2dfd8553a6f4522c14b842cd8de4645", func := "loop.example/g01303/laws.FnExactCountColourings", spec := "fnExactCountColourings", unfollowed := true, recurses := true, apart := false }
def FnExactCountColouringsSaid : Prop := fnExactCountColouringsRow.holds Try.pinned (OpenSpec.ofChange fnExactCountColouringsSpec)

/-- ITS FALSE NEIGHBOUR: 'it returns false'. Refute it at one input. -/
def fnExactCountColouringsWrong : ChangeSpec := { name := "fnExactCountColourings", fn := fun _ => fun
  | [d1, d2] => { results := [.lit (.bool false)], args := [d1, d2] }
  | _ => none }
def FnExactCountColouringsWrongFalsely : Prop := fnExactCountColouringsRow.holds Try.pinned (OpenSpec.ofChange fnExactCountColouringsWrong)

/-- 'laws.FnExactCrossingCode': WHATEVER THE INPUT: true; the input reads as it did. -/
def fnExactCrossingCodeSpec : ChangeSpec := { name := "fnExactCrossingCode", fn := fun _ => fun
  | [d] => { results := [.lit (.bool true)], args := [d] }
  | _ => none }
def fnExactCrossingCodeRow : OpenClaim := { program := "ytfijnlbkflmkbaa", sum := "d1166d1f2da5d80b0837a69054672a7de2dfd8553a6f4522c14b842cd8de4645", func := "loop.example/g01303/laws.FnExactCrossingCode", spec := "fnExactCrossingCode", unfollowed := true, recurses := true, apart := false }
def FnExactCrossingCodeSaid : Prop := fnExactCrossingCodeRow.holds Try.pinned (OpenSpec.ofChange fnExactCrossingCodeSpec)

/-- ITS FALSE NEIGHBOUR: 'it returns false'. Refute it at one input. -/
def fnExactCrossingCodeWrong : ChangeSpec := { name := "fnExactCrossingCode", fn := fun _ => fun
  | [d] => { results := [.lit (.bool false)], args := [d] }
  | _ => none }
def FnExactCrossingCodeWrongFalsely : Prop := fnExactCrossingCodeRow.holds Try.pinned (OpenSpec.ofChange fnExactCrossingCodeWrong)

/-- 'laws.FnExactAreAlike': WHATEVER THE INPUT: true; the input reads as it did. -/
def fnExactAreAlikeSpec : ChangeSpec := { name := "fnExactAreAlike", fn := fun _ => fun
  | [d1, d2] => { results := [.lit (.bool true)], args := [d1, d2] }
  | _ => none }
def fnExactAreAlikeRow : OpenClaim := { program := "ytfijnlbkflmkbaa", sum := "d1166d1f2da5d80b0837a69054672a7de2dfd8553a6f4522c14b842cd8de4645", func := "loop.example/g01303/laws.FnExactAreAlike", spec := "fnExactAreAlike", unfollowed := true, recurses := true, apart := false }
def FnExactAreAlikeSaid : Prop := fnExactAreAlikeRow.holds Try.pinned (OpenSpec.ofChange fnExactAreAlikeSpec)

/-- ITS FALSE NEIGHBOUR: 'it returns false'. Refute it at one input. -/
def fnExactAreAlikeWrong : ChangeSpec := { name := "fnExactAreAlike", fn := fun _ => fun
  | [d1, d2] => { results := [.lit (.bool false)], args := [d1, d2] }
  | _ => none }
def FnExactAreAlikeWrongFalsely : Prop := fnExactAreAlikeRow.holds Try.pinned (OpenSpec.ofChange fnExactAreAlikeWrong)

/-- 'laws.FnExactInterlacePolynomial': WHATEVER THE INPUT: true; the input reads as it did. -/
def fnExactInterlacePolynomialSpec : ChangeSpec := { name := "fnExactInterlacePolynomial", fn := fun _ => fun
  | [d] => { results := [.lit (.bool true)], args := [d] }
  | _ => none }
def fnExactInterlacePolynomialRow : OpenClaim := { program := "ytfijnlbkflmkbaa", sum := "d1166d1f2da5d80b0837a69054672a7de2dfd8553a6f4522c14b842cd8de4645", func := "loop.example/g01303/laws.FnExactInterlacePolynomial", spec := "fnExactInterlacePolynomial", unfollowed := true, recurses := true, apart := false }
def FnExactInterlacePolynomialSaid : Prop := fnExactInterlacePolynomialRow.holds Try.pinned (OpenSpec.ofChange fnExactInterlacePolynomialSpec)

/-- ITS FALSE NEIGHBOUR: 'it returns false'. Refute it at one input. -/
def fnExactInterlacePolynomialWrong : ChangeSpec := { name := "fnExactInterlacePolynomial", fn := fun _ => fun
  | [d] => { results := [.lit (.bool false)], args := [d] }
  | _ => none }
def FnExactInterlacePolynomialWrongFalsely : Prop := fnExactInterlacePolynomialRow.holds Try.pinned (OpenSpec.ofChange fnExactInterlacePolynomialWrong)

/-- 'laws.FnExactValueOfInterlace': WHATEVER THE INPUT: true; the input reads as it did. -/
def fnExactValueOfInterlaceSpec : ChangeSpec := { name := "fnExactValueOfInterlace", fn := fun _ => fun
  | [d1, d2] => { results := [.lit (.bool true)], args := [d1, d2] }
  | _ => none }
def fnExactValueOfInterlaceRow : OpenClaim := { program := "ytfijnlbkflmkbaa", sum := "d1166d1f2da5d80b0837a69054672a7de2dfd8553a6f4522c14b842cd8de4645", func := "loop.example/g01303/laws.FnExactValueOfInterlace", spec := "fnExactValueOfInterlace", unfollowed := true, recurses := true, apart := false }
def FnExactValueOfInterlaceSaid : Prop := fnExactValueOfInterlaceRow.holds Try.pinned (OpenSpec.ofChange fnExactValueOfInterlaceSpec)

/-- ITS FALSE NEIGHBOUR: 'it returns false'. Refute it at one input. -/
def fnExactValueOfInterlaceWrong : ChangeSpec := { name := "fnExactValueOfInterlace", fn := fun _ => fun
  | [d1, d2] => { results := [.lit (.bool false)], args := [d1, d2] }
  | _ => none }
def FnExactValueOfInterlaceWrongFalsely : Prop := fnExactValueOfInterlaceRow.holds Try.pinned (OpenSpec.ofChange fnExactValueOfInterlaceWrong)

/- THE SECOND FORM. 'bulk': how many values and letters a reading holds, each counted each time it is reached (what is shared counts as often as it is met; a slice's spare places count too). A statement '..UptoSaid' is the law's where the arguments, and the package variables that the reading takes, are together of bulk at most 1048576: NARROWER than '..Said'. Prove '..Said' where nothing that the law and all that it calls make is longer than what came in: it says more and counts as full. Else prove '..UptoSaid'. A law counts once. -/
mutual
def uptoBulk {H : Type} : DataW H → Nat
  | .lit (.string bytes) => bytes.length + 1
  | .lit _ => 1
  | .nil => 1
  | .ptr d => uptoBulk d + 1
  | .slice elems spare => uptoBulkAll elems + uptoBulkAll spare + 1
  | .agg parts => uptoBulkAll parts + 1
  | .iface _ d => uptoBulk d + 1
  | .map entries => uptoBulkEntries entries + 1
  | .held _ => 1
def uptoBulkAll {H : Type} : List (DataW H) → Nat
  | [] => 0
  | d :: r => uptoBulk d + uptoBulkAll r
def uptoBulkEntries {H : Type} : List (Lit × DataW H) → Nat
  | [] => 0
  | x :: r => uptoBulkEntry x + uptoBulkEntries r
def uptoBulkEntry {H : Type} : Lit × DataW H → Nat
  | (.string bytes, d) => bytes.length + uptoBulk d + 1
  | (_, d) => uptoBulk d + 1
 end
def uptoSmall : (H : Type) → List (DataW H) → Bool := fun _ ds => decide (uptoBulkAll ds ≤ 1048576)
def OpenSpec.upto (s : _root_.Go.ChangeSpec) : _root_.Go.OpenSpec := { _root_.Go.OpenSpec.ofChange s with cond := some uptoSmall }

/-- 'laws.FnExactPolygonNumbers', WHERE WHAT IT READS IS OF BULK AT MOST 1048576: true; the input reads as it did. -/
def fnExactPolygonNumbersUptoRow : OpenClaim := { program := "ytfijnlbkflmkbaa", sum := "d1166d1f2da5d80b0837a69054672a7de2dfd8553a6f4522c14b842cd8de4645", func := "loop.example/g01303/laws.FnExactPolygonNumbers", spec := "fnExactPolygonNumbers", recurses := true, apart := false, narrowed := true }
def FnExactPolygonNumbersUptoSaid : Prop := fnExactPolygonNumbersUptoRow.holds Try.pinned (OpenSpec.upto fnExactPolygonNumbersSpec)

/-- 'laws.FnExactIsWithoutCrossings', WHERE WHAT IT READS IS OF BULK AT MOST 1048576: true; the input reads as it did. -/
def fnExactIsWithoutCrossingsUptoRow : OpenClaim := { program := "ytfijnlbkflmkbaa", sum := "d1166d1f2da5d80b0837a69054672a7de2dfd8553a6f4522c14b842cd8de4645", func := "loop.example/g01303/laws.FnExactIsWithoutCrossings", spec := "fnExactIsWithoutCrossings", unfollowed := true, recurses := true, apart := false, narrowed := true }
def FnExactIsWithoutCrossingsUptoSaid : Prop := fnExactIsWithoutCrossingsUptoRow.holds Try.pinned (OpenSpec.upto fnExactIsWithoutCrossingsSpec)

/-- 'laws.FnExactIsShare', WHERE WHAT IT READS IS OF BULK AT MOST 1048576: true; the input reads as it did. -/
def fnExactIsShareUptoRow : OpenClaim := { program := "ytfijnlbkflmkbaa", sum := "d1166d1f2da5d80b0837a69054672a7de2dfd8553a6f4522c14b842cd8de4645", func := "loop.example/g01303/laws.FnExactIsShare", spec := "fnExactIsShare", apart := false, narrowed := true }
def FnExactIsShareUptoSaid : Prop := fnExactIsShareUptoRow.holds Try.pinned (OpenSpec.upto fnExactIsShareSpec)

/-- 'laws.FnExactCrossingDegrees', WHERE WHAT IT READS IS OF BULK AT MOST 1048576: true; the input reads as it did. -/
def fnExactCrossingDegreesUptoRow : OpenClaim := { program := "ytfijnlbkflmkbaa", sum := "d1166d1f2da5d80b0837a69054672a7de2dfd8553a6f4522c14b842cd8de4645", func := "loop.example/g01303/laws.FnExactCrossingDegrees", spec := "fnExactCrossingDegrees", unfollowed := true, recurses := true, apart := false, narrowed := true }
def FnExactCrossingDegreesUptoSaid : Prop := fnExactCrossingDegreesUptoRow.holds Try.pinned (OpenSpec.upto fnExactCrossingDegreesSpec)

/-- 'laws.FnExactCountCurves', WHERE WHAT IT READS IS OF BULK AT MOST 1048576: true; the input reads as it did. -/
def fnExactCountCurvesUptoRow : OpenClaim := { program := "ytfijnlbkflmkbaa", sum := "d1166d1f2da5d80b0837a69054672a7de2dfd8553a6f4522c14b842cd8de4645", func := "loop.example/g01303/laws.FnExactCountCurves", spec := "fnExactCountCurves", unfollowed := true, recurses := true, apart := false, narrowed := true }
def FnExactCountCurvesUptoSaid : Prop := fnExactCountCurvesUptoRow.holds Try.pinned (OpenSpec.upto fnExactCountCurvesSpec)

/-- 'laws.FnExactCountMeanders', WHERE WHAT IT READS IS OF BULK AT MOST 1048576: true; the input reads as it did. -/
def fnExactCountMeandersUptoRow : OpenClaim := { program := "ytfijnlbkflmkbaa", sum := "d1166d1f2da5d80b0837a69054672a7de2dfd8553a6f4522c14b842cd8de4645", func := "loop.example/g01303/laws.FnExactCountMeanders", spec := "fnExactCountMeanders", recurses := true, apart := false, narrowed := true }
def FnExactCountMeandersUptoSaid : Prop := fnExactCountMeandersUptoRow.holds Try.pinned (OpenSpec.upto fnExactCountMeandersSpec)

/-- 'laws.FnExactLocalComplement', WHERE WHAT IT READS IS OF BULK AT MOST 1048576: true; the input reads as it did. -/
def fnExactLocalComplementUptoRow : OpenClaim := { program := "ytfijnlbkflmkbaa", sum := "d1166d1f2da5d80b0837a69054672a7de2dfd8553a6f4522c14b842cd8de4645", func := "loop.example/g01303/laws.FnExactLocalComplement", spec := "fnExactLocalComplement", apart := false, narrowed := true }
def FnExactLocalComplementUptoSaid : Prop := fnExactLocalComplementUptoRow.holds Try.pinned (OpenSpec.upto fnExactLocalComplementSpec)

/-- 'laws.FnExactMatchingNumbers', WHERE WHAT IT READS IS OF BULK AT MOST 1048576: true; the input reads as it did. -/
def fnExactMatchingNumbersUptoRow : OpenClaim := { program := "ytfijnlbkflmkbaa", sum := "d1166d1f2da5d80b0837a69054672a7de2dfd8553a6f4522c14b842cd8de4645", func := "loop.example/g01303/laws.FnExactMatchingNumbers", spec := "fnExactMatchingNumbers", unfollowed := true, recurses := true, apart := false, narrowed := true }
def FnExactMatchingNumbersUptoSaid : Prop := fnExactMatchingNumbersUptoRow.holds Try.pinned (OpenSpec.upto fnExactMatchingNumbersSpec)

/-- 'laws.FnExactLongestChain', WHERE WHAT IT READS IS OF BULK AT MOST 1048576: true; the input reads as it did. -/
def fnExactLongestChainUptoRow : OpenClaim := { program := "ytfijnlbkflmkbaa", sum := "d1166d1f2da5d80b0837a69054672a7de2dfd8553a6f4522c14b842cd8de4645", func := "loop.example/g01303/laws.FnExactLongestChain", spec := "fnExactLongestChain", unfollowed := true, recurses := true, apart := false, narrowed := true }
def FnExactLongestChainUptoSaid : Prop := fnExactLongestChainUptoRow.holds Try.pinned (OpenSpec.upto fnExactLongestChainSpec)

/-- 'laws.FnExactPivotWord', WHERE WHAT IT READS IS OF BULK AT MOST 1048576: true; the input reads as it did. -/
def fnExactPivotWordUptoRow : OpenClaim := { program := "ytfijnlbkflmkbaa", sum := "d1166d1f2da5d80b0837a69054672a7de2dfd8553a6f4522c14b842cd8de4645", func := "loop.example/g01303/laws.FnExactPivotWord", spec := "fnExactPivotWord", apart := false, narrowed := true }
def FnExactPivotWordUptoSaid : Prop := fnExactPivotWordUptoRow.holds Try.pinned (OpenSpec.upto fnExactPivotWordSpec)

/-- 'laws.FnExactSharesOf', WHERE WHAT IT READS IS OF BULK AT MOST 1048576: true; the input reads as it did. -/
def fnExactSharesOfUptoRow : OpenClaim := { program := "ytfijnlbkflmkbaa", sum := "d1166d1f2da5d80b0837a69054672a7de2dfd8553a6f4522c14b842cd8de4645", func := "loop.example/g01303/laws.FnExactSharesOf", spec := "fnExactSharesOf", apart := false, narrowed := true }
def FnExactSharesOfUptoSaid : Prop := fnExactSharesOfUptoRow.holds Try.pinned (OpenSpec.upto fnExactSharesOfSpec)

/-- 'laws.FnExactLeastColours', WHERE WHAT IT READS IS OF BULK AT MOST 1048576: true; the input reads as it did. -/
def fnExactLeastColoursUptoRow : OpenClaim := { program := "ytfijnlbkflmkbaa", sum := "d1166d1f2da5d80b0837a69054672a7de2dfd8553a6f4522c14b842cd8de4645", func := "loop.example/g01303/laws.FnExactLeastColours", spec := "fnExactLeastColours", unfollowed := true, recurses := true, apart := false, narrowed := true }
def FnExactLeastColoursUptoSaid : Prop := fnExactLeastColoursUptoRow.holds Try.pinned (OpenSpec.upto fnExactLeastColoursSpec)

/-- 'laws.FnExactCliqueNumbers', WHERE WHAT IT READS IS OF BULK AT MOST 1048576: true; the input reads as it did. -/
def fnExactCliqueNumbersUptoRow : OpenClaim := { program := "ytfijnlbkflmkbaa", sum := "d1166d1f2da5d80b0837a69054672a7de2dfd8553a6f4522c14b842cd8de4645", func := "loop.example/g01303/laws.FnExactCliqueNumbers", spec := "fnExactCliqueNumbers", unfollowed := true, recurses := true, apart := false, narrowed := true }
def FnExactCliqueNumbersUptoSaid : Prop := fnExactCliqueNumbersUptoRow.holds Try.pinned (OpenSpec.upto fnExactCliqueNumbersSpec)

/-- 'laws.FnExactIndependentNumbers', WHERE WHAT IT READS IS OF BULK AT MOST 1048576: true; the input reads as it did. -/
def fnExactIndependentNumbersUptoRow : OpenClaim := { program := "ytfijnlbkflmkbaa", sum := "d1166d1f2da5d80b0837a69054672a7de2dfd8553a6f4522c14b842cd8de4645", func := "loop.example/g01303/laws.FnExactIndependentNumbers", spec := "fnExactIndependentNumbers", unfollowed := true, recurses := true, apart := false, narrowed := true }
def FnExactIndependentNumbersUptoSaid : Prop := fnExactIndependentNumbersUptoRow.holds Try.pinned (OpenSpec.upto fnExactIndependentNumbersSpec)

/-- 'laws.FnExactIsMeander', WHERE WHAT IT READS IS OF BULK AT MOST 1048576: true; the input reads as it did. -/
def fnExactIsMeanderUptoRow : OpenClaim := { program := "ytfijnlbkflmkbaa", sum := "d1166d1f2da5d80b0837a69054672a7de2dfd8553a6f4522c14b842cd8de4645", func := "loop.example/g01303/laws.FnExactIsMeander", spec := "fnExactIsMeander", unfollowed := true, recurses := true, apart := false, narrowed := true }
def FnExactIsMeanderUptoSaid : Prop := fnExactIsMeanderUptoRow.holds Try.pinned (OpenSpec.upto fnExactIsMeanderSpec)

/-- 'laws.FnExactMutateWord', WHERE WHAT IT READS IS OF BULK AT MOST 1048576: true; the input reads as it did. -/
def fnExactMutateWordUptoRow : OpenClaim := { program := "ytfijnlbkflmkbaa", sum := "d1166d1f2da5d80b0837a69054672a7de2dfd8553a6f4522c14b842cd8de4645", func := "loop.example/g01303/laws.FnExactMutateWord", spec := "fnExactMutateWord", apart := false, narrowed := true }
def FnExactMutateWordUptoSaid : Prop := fnExactMutateWordUptoRow.holds Try.pinned (OpenSpec.upto fnExactMutateWordSpec)

/-- 'laws.FnExactAreAlikeGraphs', WHERE WHAT IT READS IS OF BULK AT MOST 1048576: true; the input reads as it did. -/
def fnExactAreAlikeGraphsUptoRow : OpenClaim := { program := "ytfijnlbkflmkbaa", sum := "d1166d1f2da5d80b0837a69054672a7de2dfd8553a6f4522c14b842cd8de4645", func := "loop.example/g01303/laws.FnExactAreAlikeGraphs", spec := "fnExactAreAlikeGraphs", unfollowed := true, recurses := true, apart := false, narrowed := true }
def FnExactAreAlikeGraphsUptoSaid : Prop := fnExactAreAlikeGraphsUptoRow.holds Try.pinned (OpenSpec.upto fnExactAreAlikeGraphsSpec)

/-- 'laws.FnExactColouringPolynomial', WHERE WHAT IT READS IS OF BULK AT MOST 1048576: true; the input reads as it did. -/
def fnExactColouringPolynomialUptoRow : OpenClaim := { program := "ytfijnlbkflmkbaa", sum := "d1166d1f2da5d80b0837a69054672a7de2dfd8553a6f4522c14b842cd8de4645", func := "loop.example/g01303/laws.FnExactColouringPolynomial", spec := "fnExactColouringPolynomial", unfollowed := true, recurses := true, apart := false, narrowed := true }
def FnExactColouringPolynomialUptoSaid : Prop := fnExactColouringPolynomialUptoRow.holds Try.pinned (OpenSpec.upto fnExactColouringPolynomialSpec)

/-- 'laws.FnExactCountColourings', WHERE WHAT IT READS IS OF BULK AT MOST 1048576: true; the input reads as it did. -/
def fnExactCountColouringsUptoRow : OpenClaim := { program := "ytfijnlbkflmkbaa", sum := "d1166d1f2da5d80b0837a69054672a7de2dfd8553a6f4522c14b842cd8de4645", func := "loop.example/g01303/laws.FnExactCountColourings", spec := "fnExactCountColourings", unfollowed := true, recurses := true, apart := false, narrowed := true }
def FnExactCountColouringsUptoSaid : Prop := fnExactCountColouringsUptoRow.holds Try.pinned (OpenSpec.upto fnExactCountColouringsSpec)

/-- 'laws.FnExactCrossingCode', WHERE WHAT IT READS IS OF BULK AT MOST 1048576: true; the input reads as it did. -/
def fnExactCrossingCodeUptoRow : OpenClaim := { program := "ytfijnlbkflmkbaa", sum := "d1166d1f2da5d80b0837a69054672a7de2dfd8553a6f4522c14b842cd8de4645", func := "loop.example/g01303/laws.FnExactCrossingCode", spec := "fnExactCrossingCode", unfollowed := true, recurses := true, apart := false, narrowed := true }
def FnExactCrossingCodeUptoSaid : Prop := fnExactCrossingCodeUptoRow.holds Try.pinned (OpenSpec.upto fnExactCrossingCodeSpec)

/-- 'laws.FnExactAreAlike', WHERE WHAT IT READS IS OF BULK AT MOST 1048576: true; the input reads as it did. -/
def fnExactAreAlikeUptoRow : OpenClaim := { program := "ytfijnlbkflmkbaa", sum := "d1166d1f2da5d80b0837a69054672a7de2dfd8553a6f4522c14b842cd8de4645", func := "loop.example/g01303/laws.FnExactAreAlike", spec := "fnExactAreAlike", unfollowed := true, recurses := true, apart := false, narrowed := true }
def FnExactAreAlikeUptoSaid : Prop := fnExactAreAlikeUptoRow.holds Try.pinned (OpenSpec.upto fnExactAreAlikeSpec)

/-- 'laws.FnExactInterlacePolynomial', WHERE WHAT IT READS IS OF BULK AT MOST 1048576: true; the input reads as it did. -/
def fnExactInterlacePolynomialUptoRow : OpenClaim := { program := "ytfijnlbkflmkbaa", sum := "d1166d1f2da5d80b0837a69054672a7de2dfd8553a6f4522c14b842cd8de4645", func := "loop.example/g01303/laws.FnExactInterlacePolynomial", spec := "fnExactInterlacePolynomial", unfollowed := true, recurses := true, apart := false, narrowed := true }
def FnExactInterlacePolynomialUptoSaid : Prop := fnExactInterlacePolynomialUptoRow.holds Try.pinned (OpenSpec.upto fnExactInterlacePolynomialSpec)

/-- 'laws.FnExactValueOfInterlace', WHERE WHAT IT READS IS OF BULK AT MOST 1048576: true; the input reads as it did. -/
def fnExactValueOfInterlaceUptoRow : OpenClaim := { program := "ytfijnlbkflmkbaa", sum := "d1166d1f2da5d80b0837a69054672a7de2dfd8553a6f4522c14b842cd8de4645", func := "loop.example/g01303/laws.FnExactValueOfInterlace", spec := "fnExactValueOfInterlace", unfollowed := true, recurses := true, apart := false, narrowed := true }
def FnExactValueOfInterlaceUptoSaid : Prop := fnExactValueOfInterlaceUptoRow.holds Try.pinned (OpenSpec.upto fnExactValueOfInterlaceSpec)

end Rows
end Go.Proofs.Ytfijnlbkflmkbaa
