/-
  No cell of these rows narrows 'for every input' (looked for: loops, veiled, ifaces, maps, wideKeys, modest, calm, conditions, laid).
  DERIVED. THE GIVEN ROWS OF THIS SEAT. 6 by the template 'for every input the law returns true; each argument reads behind the call as it read before'; 0 by the template 'total and deterministic' (their statements: YtcnekpdoldljgaaTotals.lean).
  GIVEN WITH THE SEED: the statements are not yours to turn. If you find one false, say at which input.
  Laid BY PROGRAM, IN A SANDBOX (cutbox-rows.mjs): the forced cells as the released guide's own fill.sh prints them over the translation 280216a55b300791… (all of the seat's roots in one cut). By AI agents, Wed Nov 11 2026. No macro, syntax, notation, axiom, sorry.
-/
import Derived.Test.YtcnekpdoldljgaaChecked
import GoSem.Claim
import GoSem.ClaimJoined
import GoSem.ClaimMapViews
import Derived.JoinedTies
import Derived.KernelRfl
namespace Go.Proofs.Ytcnekpdoldljgaa
/- THE CELL 'sum', in the pinned program and in every row, IS THE sha256 OF THE DUMP (.gsa) THAT YtcnekpdoldljgaaProg.lean LOADS. Nothing in Lean hashes anything: it is a label: what it is worth is what the hold of that sum in a sandbox is worth. -/
noncomputable def Try.pinned : Pinned := { name := "ytcnekpdoldljgaa", sum := "280216a55b3007917212e6197e3388bbde1723d3bc90111ff449953bdc013c5e", checked := Try.checked }
namespace Rows
def none {H : Type} : Left H := { results := [], args := [] }

/-- 'laws.FnCurves': WHATEVER THE INPUT: true; the input reads as it did. -/
def fnCurvesSpec : ChangeSpec := { name := "fnCurves", fn := fun _ => fun
  | [d] => { results := [.lit (.bool true)], args := [d] }
  | _ => none }
def fnCurvesRow : OpenClaim := { program := "ytcnekpdoldljgaa", sum := "280216a55b3007917212e6197e3388bbde1723d3bc90111ff449953bdc013c5e", func := "loop.example/g01303/laws.FnCurves", spec := "fnCurves", unfollowed := true, recurses := true, apart := false }
def FnCurvesSaid : Prop := fnCurvesRow.holds Try.pinned (OpenSpec.ofChange fnCurvesSpec)

/-- ITS FALSE NEIGHBOUR: 'it returns false'. Refute it at one input. -/
def fnCurvesWrong : ChangeSpec := { name := "fnCurves", fn := fun _ => fun
  | [d] => { results := [.lit (.bool false)], args := [d] }
  | _ => none }
def FnCurvesWrongFalsely : Prop := fnCurvesRow.holds Try.pinned (OpenSpec.ofChange fnCurvesWrong)

/-- 'laws.FnExactInterlacePolynomial': WHATEVER THE INPUT: true; the input reads as it did. -/
def fnExactInterlacePolynomialSpec : ChangeSpec := { name := "fnExactInterlacePolynomial", fn := fun _ => fun
  | [d] => { results := [.lit (.bool true)], args := [d] }
  | _ => none }
def fnExactInterlacePolynomialRow : OpenClaim := { program := "ytcnekpdoldljgaa", sum := "280216a55b3007917212e6197e3388bbde1723d3bc90111ff449953bdc013c5e", func := "loop.example/g01303/laws.FnExactInterlacePolynomial", spec := "fnExactInterlacePolynomial", unfollowed := true, recurses := true, apart := false }
def FnExactInterlacePolynomialSaid : Prop := fnExactInterlacePolynomialRow.holds Try.pinned (OpenSpec.ofChange fnExactInterlacePolynomialSpec)

/-- ITS FALSE NEIGHBOUR: 'it returns false'. Refute it at one input. -/
def fnExactInterlacePolynomialWrong : ChangeSpec := { name := "fnExactInterlacePolynomial", fn := fun _ => fun
  | [d] => { results := [.lit (.bool false)], args := [d] }
  | _ => none }
def FnExactInterlacePolynomialWrongFalsely : Prop := fnExactInterlacePolynomialRow.holds Try.pinned (OpenSpec.ofChange fnExactInterlacePolynomialWrong)

/-- 'laws.FnExactValueOfInterlace': WHATEVER THE INPUT: true; the input reads as it did. -/
def fnExactValueOfInterlaceSpec : ChangeSpec := { name := "fnExactValueOfInterlace", fn := fun _ => fun
  | [d1, d2] => { results := [.lit (.bool true)], args := [d1, d2] }
  | _ => none }
def fnExactValueOfInterlaceRow : OpenClaim := { program := "ytcnekpdoldljgaa", sum := "280216a55b3007917212e6197e3388bbde1723d3bc90111ff449953bdc013c5e", func := "loop.example/g01303/laws.FnExactValueOfInterlace", spec := "fnExactValueOfInterlace", unfollowed := true, recurses := true, apart := false }
def FnExactValueOfInterlaceSaid : Prop := fnExactValueOfInterlaceRow.holds Try.pinned (OpenSpec.ofChange fnExactValueOfInterlaceSpec)

/-- ITS FALSE NEIGHBOUR: 'it returns false'. Refute it at one input. -/
def fnExactValueOfInterlaceWrong : ChangeSpec := { name := "fnExactValueOfInterlace", fn := fun _ => fun
  | [d1, d2] => { results := [.lit (.bool false)], args := [d1, d2] }
  | _ => none }
def FnExactValueOfInterlaceWrongFalsely : Prop := fnExactValueOfInterlaceRow.holds Try.pinned (OpenSpec.ofChange fnExactValueOfInterlaceWrong)

/-- 'laws.FnExactCommutatorOf': WHATEVER THE INPUT: true; the input reads as it did. -/
def fnExactCommutatorOfSpec : ChangeSpec := { name := "fnExactCommutatorOf", fn := fun _ => fun
  | [d1, d2] => { results := [.lit (.bool true)], args := [d1, d2] }
  | _ => none }
def fnExactCommutatorOfRow : OpenClaim := { program := "ytcnekpdoldljgaa", sum := "280216a55b3007917212e6197e3388bbde1723d3bc90111ff449953bdc013c5e", func := "loop.example/g01303/laws.FnExactCommutatorOf", spec := "fnExactCommutatorOf", unfollowed := true, recurses := true, apart := false }
def FnExactCommutatorOfSaid : Prop := fnExactCommutatorOfRow.holds Try.pinned (OpenSpec.ofChange fnExactCommutatorOfSpec)

/-- ITS FALSE NEIGHBOUR: 'it returns false'. Refute it at one input. -/
def fnExactCommutatorOfWrong : ChangeSpec := { name := "fnExactCommutatorOf", fn := fun _ => fun
  | [d1, d2] => { results := [.lit (.bool false)], args := [d1, d2] }
  | _ => none }
def FnExactCommutatorOfWrongFalsely : Prop := fnExactCommutatorOfRow.holds Try.pinned (OpenSpec.ofChange fnExactCommutatorOfWrong)

/-- 'laws.FnExactLogarithmOf': WHATEVER THE INPUT: true; the input reads as it did. -/
def fnExactLogarithmOfSpec : ChangeSpec := { name := "fnExactLogarithmOf", fn := fun _ => fun
  | [d1, d2] => { results := [.lit (.bool true)], args := [d1, d2] }
  | _ => none }
def fnExactLogarithmOfRow : OpenClaim := { program := "ytcnekpdoldljgaa", sum := "280216a55b3007917212e6197e3388bbde1723d3bc90111ff449953bdc013c5e", func := "loop.example/g01303/laws.FnExactLogarithmOf", spec := "fnExactLogarithmOf", unfollowed := true, recurses := true, apart := false }
def FnExactLogarithmOfSaid : Prop := fnExactLogarithmOfRow.holds Try.pinned (OpenSpec.ofChange fnExactLogarithmOfSpec)

/-- ITS FALSE NEIGHBOUR: 'it returns false'. Refute it at one input. -/
def fnExactLogarithmOfWrong : ChangeSpec := { name := "fnExactLogarithmOf", fn := fun _ => fun
  | [d1, d2] => { results := [.lit (.bool false)], args := [d1, d2] }
  | _ => none }
def FnExactLogarithmOfWrongFalsely : Prop := fnExactLogarithmOfRow.holds Try.pinned (OpenSpec.ofChange fnExactLogarithmOfWrong)

/-- 'laws.FnExactExponentialOf': WHATEVER THE INPUT: true; the input reads as it did. -/
def fnExactExponentialOfSpec : ChangeSpec := { name := "fnExactExponentialOf", fn := fun _ => fun
  | [d1, d2] => { results := [.lit (.bool true)], args := [d1, d2] }
  | _ => none }
def fnExactExponentialOfRow : OpenClaim := { program := "ytcnekpdoldljgaa", sum := "280216a55b3007917212e6197e3388bbde1723d3bc90111ff449953bdc013c5e", func := "loop.example/g01303/laws.FnExactExponentialOf", spec := "fnExactExponentialOf", unfollowed := true, recurses := true, apart := false }
def FnExactExponentialOfSaid : Prop := fnExactExponentialOfRow.holds Try.pinned (OpenSpec.ofChange fnExactExponentialOfSpec)

/-- ITS FALSE NEIGHBOUR: 'it returns false'. Refute it at one input. -/
def fnExactExponentialOfWrong : ChangeSpec := { name := "fnExactExponentialOf", fn := fun _ => fun
  | [d1, d2] => { results := [.lit (.bool false)], args := [d1, d2] }
  | _ => none }
def FnExactExponentialOfWrongFalsely : Prop := fnExactExponentialOfRow.holds Try.pinned (OpenSpec.ofChange fnExactExponentialOfWrong)

/- THE SECOND FORM. 'bulk': how many values and letters a reading holds, each counted each time it is reached (what is shared counts as often as it is met; a slice's spare places count too). A statement '..UptoSaid' is the law's where the arguments, and the package variables that the reading takes, are together of bulk at most 1048576: NARROWER than '..Said'. Prove '..Said' where nothing that the law and all that it calls make is longer than what came in: it says more and counts as full. Else prove '..UptoSaid'. A law counts once. -/
mutual
def uptoBulk {H : Type} : DataW H → Nat
  | .lit (.string bytes) => bytes.length + 1
  | .lit _ => 1
  | .nil => 1
  | .ptr d => uptoBulk d + 1
  | .slice elems spare => uptoBulkAll elems + uptoBulkAll spare + 1
  | .agg parts => uptoBulkAll parts + 1
  | .iface _ d => uptoBulk d + 1
  | .map entries => uptoBulkEntries entries + 1
  | .held _ => 1
def uptoBulkAll {H : Type} : List (DataW H) → Nat
  | [] => 0
  | d :: r => uptoBulk d + uptoBulkAll r
def uptoBulkEntries {H : Type} : List (Lit × DataW H) → Nat
  | [] => 0
  | x :: r => uptoBulkEntry x + uptoBulkEntries r
def uptoBulkEntry {H : Type} : Lit × DataW H → Nat
  | (.string bytes, d) => bytes.length + uptoBulk d + 1
  | (_, d) => uptoBulk d + 1
 end
def uptoSmall : (H : Type) → List (DataW H) → Bool := fun _ ds => decide (uptoBulkAll ds ≤ 1048576)
def OpenSpec.upto (s : _root_.Go.ChangeSpec) : _root_.Go.OpenSpec := { _root_.Go.OpenSpec.ofChange s with cond := some uptoSmall }

/-- 'laws.FnCurves', WHERE WHAT IT READS IS OF BULK AT MOST 1048576: true; the input reads as it did. -/
def fnCurvesUptoRow : OpenClaim := { program := "ytcnekpdoldljgaa", sum := "280216a55b3007917212e6197e3388bbde1723d3bc90111ff449953bdc013c5e", func := "loop.example/g01303/laws.FnCurves", spec := "fnCurves", unfollowed := true, recurses := true, apart := false, narrowed := true }
def FnCurvesUptoSaid : Prop := fnCurvesUptoRow.holds Try.pinned (OpenSpec.upto fnCurvesSpec)

/-- 'laws.FnExactInterlacePolynomial', WHERE WHAT IT READS IS OF BULK AT MOST 1048576: true; the input reads as it did. -/
def fnExactInterlacePolynomialUptoRow : OpenClaim := { program := "ytcnekpdoldljgaa", sum := "280216a55b3007917212e6197e3388bbde1723d3bc90111ff449953bdc013c5e", func := "loop.example/g01303/laws.FnExactInterlacePolynomial", spec := "fnExactInterlacePolynomial", unfollowed := true, recurses := true, apart := false, narrowed := true }
def FnExactInterlacePolynomialUptoSaid : Prop := fnExactInterlacePolynomialUptoRow.holds Try.pinned (OpenSpec.upto fnExactInterlacePolynomialSpec)

/-- 'laws.FnExactValueOfInterlace', WHERE WHAT IT READS IS OF BULK AT MOST 1048576: true; the input reads as it did. -/
def fnExactValueOfInterlaceUptoRow : OpenClaim := { program := "ytcnekpdoldljgaa", sum := "280216a55b3007917212e6197e3388bbde1723d3bc90111ff449953bdc013c5e", func := "loop.example/g01303/laws.FnExactValueOfInterlace", spec := "fnExactValueOfInterlace", unfollowed := true, recurses := true, apart := false, narrowed := true }
def FnExactValueOfInterlaceUptoSaid : Prop := fnExactValueOfInterlaceUptoRow.holds Try.pinned (OpenSpec.upto fnExactValueOfInterlaceSpec)

/-- 'laws.FnExactCommutatorOf', WHERE WHAT IT READS IS OF BULK AT MOST 1048576: true; the input reads as it did. -/
def fnExactCommutatorOfUptoRow : OpenClaim := { program := "ytcnekpdoldljgaa", sum := "280216a55b3007917212e6197e3388bbde1723d3bc90111ff449953bdc013c5e", func := "loop.example/g01303/laws.FnExactCommutatorOf", spec := "fnExactCommutatorOf", unfollowed := true, recurses := true, apart := false, narrowed := true }
def FnExactCommutatorOfUptoSaid : Prop := fnExactCommutatorOfUptoRow.holds Try.pinned (OpenSpec.upto fnExactCommutatorOfSpec)

/-- 'laws.FnExactLogarithmOf', WHERE WHAT IT READS IS OF BULK AT MOST 1048576: true; the input reads as it did. -/
def fnExactLogarithmOfUptoRow : OpenClaim := { program := "ytcnekpdoldljgaa", sum := "280216a55b3007917212e6197e3388bbde1723d3bc90111ff449953bdc013c5e", func := "loop.example/g01303/laws.FnExactLogarithmOf", spec := "fnExactLogarithmOf", unfollowed := true, recurses := true, apart := false, narrowed := true }
def FnExactLogarithmOfUptoSaid : Prop := fnExactLogarithmOfUptoRow.holds Try.pinned (OpenSpec.upto fnExactLogarithmOfSpec)

/-- 'laws.FnExactExponentialOf', WHERE WHAT IT READS IS OF BULK AT MOST 1048576: true; the input reads as it did. -/
def fnExactExponentialOfUptoRow : OpenClaim := { program := "ytcnekpdoldljgaa", sum := "280216a55b3007917212e6197e3388bbde1723d3bc90111ff449953bdc013c5e", func := "loop.example/g01303/laws.FnExactExponentialOf", spec := "fnExactExponentialOf", unfollowed := true, recurses := true, apart := false, narrowed := true }
def FnExactExponentialOfUptoSaid : Prop := fnExactExponentialOfUptoRow.holds Try.pinned (OpenSpec.upto fnExactExponentialOfSpec)

end Rows
end Go.Proofs.Ytcnekpdoldljgaa
