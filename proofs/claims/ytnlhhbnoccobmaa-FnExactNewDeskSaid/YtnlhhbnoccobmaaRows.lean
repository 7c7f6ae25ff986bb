/-
  No cell of these rows narrows 'for every input' (looked for: loops, veiled, ifaces, maps, wideKeys, modest, calm, conditions, laid).
  DERIVED. THE GIVEN ROWS OF THIS SEAT. 15 by the template 'for every input the law returns true; each argument reads behind the call as it read before'; 0 by the template 'total and deterministic' (their statements: YtnlhhbnoccobmaaTotals.lean).
  GIVEN WITH THE SEED: the statements are not yours to turn. If you find one false, say at which input.
  Laid BY PROGRAM, IN A SANDBOX (cutbox-rows.mjs): the forced cells as the released guide's own fill.sh prints them over the translation cc8adcef13ce07cc… (all of the seat's roots in one cut). By AI agents, Wed Nov 11 2026. No macro, syntax, notation, axiom, sorry.
-/
import Derived.Test.YtnlhhbnoccobmaaChecked
import GoSem.Claim
import GoSem.ClaimJoined
import GoSem.ClaimMapViews
import Derived.JoinedTies
import Derived.KernelRfl
namespace Go.Proofs.Ytnlhhbnoccobmaa
/- THE CELL 'sum', in the pinned program and in every row, IS THE sha256 OF THE DUMP (.gsa) THAT YtnlhhbnoccobmaaProg.lean LOADS. Nothing in Lean hashes anything: it is a label: what it is worth is what the hold of that sum in a sandbox is worth. -/
noncomputable def Try.pinned : Pinned := { name := "ytnlhhbnoccobmaa", sum := "cc8adcef13ce07cccab2f88920a5114030f8343b46c961918191d2315136b49e", checked := Try.checked }
namespace Rows
def none {H : Type} : Left H := { results := [], args := [] }

/-- 'laws.FnExactIsWeb': WHATEVER THE INPUT: true; the input reads as it did. -/
def fnExactIsWebSpec : ChangeSpec := { name := "fnExactIsWeb", fn := fun _ => fun
  | [d] => { results := [.lit (.bool true)], args := [d] }
  | _ => none }
def fnExactIsWebRow : OpenClaim := { program := "ytnlhhbnoccobmaa", sum := "cc8adcef13ce07cccab2f88920a5114030f8343b46c961918191d2315136b49e", func := "loop.example/g01303/laws.FnExactIsWeb", spec := "fnExactIsWeb", unfollowed := true, recurses := true, apart := false }
def FnExactIsWebSaid : Prop := fnExactIsWebRow.holds Try.pinned (OpenSpec.ofChange fnExactIsWebSpec)

/-- ITS FALSE NEIGHBOUR: 'it returns false'. Refute it at one input. -/
def fnExactIsWebWrong : ChangeSpec := { name := "fnExactIsWeb", fn := fun _ => fun
  | [d] => { results := [.lit (.bool false)], args := [d] }
  | _ => none }
def FnExactIsWebWrongFalsely : Prop := fnExactIsWebRow.holds Try.pinned (OpenSpec.ofChange fnExactIsWebWrong)

/-- 'laws.FnExactNewDesk': WHATEVER THE INPUT: true; the input reads as it did. -/
def fnExactNewDeskSpec : ChangeSpec := { name := "fnExactNewDesk", fn := fun _ => fun
  | [] => { results := [.lit (.bool true)], args := [] }
  | _ => none }
def fnExactNewDeskRow : OpenClaim := { program := "ytnlhhbnoccobmaa", sum := "cc8adcef13ce07cccab2f88920a5114030f8343b46c961918191d2315136b49e", func := "loop.example/g01303/laws.FnExactNewDesk", spec := "fnExactNewDesk", apart := false }
def FnExactNewDeskSaid : Prop := fnExactNewDeskRow.holds Try.pinned (OpenSpec.ofChange fnExactNewDeskSpec)

/-- ITS FALSE NEIGHBOUR: 'it returns false'. Refute it at one input. -/
def fnExactNewDeskWrong : ChangeSpec := { name := "fnExactNewDesk", fn := fun _ => fun
  | [] => { results := [.lit (.bool false)], args := [] }
  | _ => none }
def FnExactNewDeskWrongFalsely : Prop := fnExactNewDeskRow.holds Try.pinned (OpenSpec.ofChange fnExactNewDeskWrong)

/-- 'laws.FnExactDegreeOfWeb': WHATEVER THE INPUT: true; the input reads as it did. -/
def fnExactDegreeOfWebSpec : ChangeSpec := { name := "fnExactDegreeOfWeb", fn := fun _ => fun
  | [d] => { results := [.lit (.bool true)], args := [d] }
  | _ => none }
def fnExactDegreeOfWebRow : OpenClaim := { program := "ytnlhhbnoccobmaa", sum := "cc8adcef13ce07cccab2f88920a5114030f8343b46c961918191d2315136b49e", func := "loop.example/g01303/laws.FnExactDegreeOfWeb", spec := "fnExactDegreeOfWeb", unfollowed := true, recurses := true, apart := false }
def FnExactDegreeOfWebSaid : Prop := fnExactDegreeOfWebRow.holds Try.pinned (OpenSpec.ofChange fnExactDegreeOfWebSpec)

/-- ITS FALSE NEIGHBOUR: 'it returns false'. Refute it at one input. -/
def fnExactDegreeOfWebWrong : ChangeSpec := { name := "fnExactDegreeOfWeb", fn := fun _ => fun
  | [d] => { results := [.lit (.bool false)], args := [d] }
  | _ => none }
def FnExactDegreeOfWebWrongFalsely : Prop := fnExactDegreeOfWebRow.holds Try.pinned (OpenSpec.ofChange fnExactDegreeOfWebWrong)

/-- 'laws.FnExactTurnFork': WHATEVER THE INPUT: true; the input reads as it did. -/
def fnExactTurnForkSpec : ChangeSpec := { name := "fnExactTurnFork", fn := fun _ => fun
  | [d1, d2] => { results := [.lit (.bool true)], args := [d1, d2] }
  | _ => none }
def fnExactTurnForkRow : OpenClaim := { program := "ytnlhhbnoccobmaa", sum := "cc8adcef13ce07cccab2f88920a5114030f8343b46c961918191d2315136b49e", func := "loop.example/g01303/laws.FnExactTurnFork", spec := "fnExactTurnFork", unfollowed := true, recurses := true, apart := false }
def FnExactTurnForkSaid : Prop := fnExactTurnForkRow.holds Try.pinned (OpenSpec.ofChange fnExactTurnForkSpec)

/-- ITS FALSE NEIGHBOUR: 'it returns false'. Refute it at one input. -/
def fnExactTurnForkWrong : ChangeSpec := { name := "fnExactTurnFork", fn := fun _ => fun
  | [d1, d2] => { results := [.lit (.bool false)], args := [d1, d2] }
  | _ => none }
def FnExactTurnForkWrongFalsely : Prop := fnExactTurnForkRow.holds Try.pinned (OpenSpec.ofChange fnExactTurnForkWrong)

/-- 'laws.FnExactColouringPolynomial': WHATEVER THE INPUT: true; the input reads as it did. -/
def fnExactColouringPolynomialSpec : ChangeSpec := { name := "fnExactColouringPolynomial", fn := fun _ => fun
  | [d] => { results := [.lit (.bool true)], args := [d] }
  | _ => none }
def fnExactColouringPolynomialRow : OpenClaim := { program := "ytnlhhbnoccobmaa", sum := "cc8adcef13ce07cccab2f88920a5114030f8343b46c961918191d2315136b49e", func := "loop.example/g01303/laws.FnExactColouringPolynomial", spec := "fnExactColouringPolynomial", unfollowed := true, recurses := true, apart := false }
def FnExactColouringPolynomialSaid : Prop := fnExactColouringPolynomialRow.holds Try.pinned (OpenSpec.ofChange fnExactColouringPolynomialSpec)

/-- ITS FALSE NEIGHBOUR: 'it returns false'. Refute it at one input. -/
def fnExactColouringPolynomialWrong : ChangeSpec := { name := "fnExactColouringPolynomial", fn := fun _ => fun
  | [d] => { results := [.lit (.bool false)], args := [d] }
  | _ => none }
def FnExactColouringPolynomialWrongFalsely : Prop := fnExactColouringPolynomialRow.holds Try.pinned (OpenSpec.ofChange fnExactColouringPolynomialWrong)

/-- 'laws.FnExactCountColourings': WHATEVER THE INPUT: true; the input reads as it did. -/
def fnExactCountColouringsSpec : ChangeSpec := { name := "fnExactCountColourings", fn := fun _ => fun
  | [d1, d2] => { results := [.lit (.bool true)], args := [d1, d2] }
  | _ => none }
def fnExactCountColouringsRow : OpenClaim := { program := "ytnlhhbnoccobmaa", sum := "cc8adcef13ce07cccab2f88920a5114030f8343b46c961918191d2315136b49e", func := "loop.example/g01303/laws.FnExactCountColourings", spec := "fnExactCountColourings", unfollowed := true, recurses := true, apart := false }
def FnExactCountColouringsSaid : Prop := fnExactCountColouringsRow.holds Try.pinned (OpenSpec.ofChange fnExactCountColouringsSpec)

/-- ITS FALSE NEIGHBOUR: 'it returns false'. Refute it at one input. -/
def fnExactCountColouringsWrong : ChangeSpec := { name := "fnExactCountColourings", fn := fun _ => fun
  | [d1, d2] => { results := [.lit (.bool false)], args := [d1, d2] }
  | _ => none }
def FnExactCountColouringsWrongFalsely : Prop := fnExactCountColouringsRow.holds Try.pinned (OpenSpec.ofChange fnExactCountColouringsWrong)

/-- 'laws.FnExactExchangeLegs': WHATEVER THE INPUT: true; the input reads as it did. -/
def fnExactExchangeLegsSpec : ChangeSpec := { name := "fnExactExchangeLegs", fn := fun _ => fun
  | [d1, d2] => { results := [.lit (.bool true)], args := [d1, d2] }
  | _ => none }
def fnExactExchangeLegsRow : OpenClaim := { program := "ytnlhhbnoccobmaa", sum := "cc8adcef13ce07cccab2f88920a5114030f8343b46c961918191d2315136b49e", func := "loop.example/g01303/laws.FnExactExchangeLegs", spec := "fnExactExchangeLegs", unfollowed := true, recurses := true, apart := false }
def FnExactExchangeLegsSaid : Prop := fnExactExchangeLegsRow.holds Try.pinned (OpenSpec.ofChange fnExactExchangeLegsSpec)

/-- ITS FALSE NEIGHBOUR: 'it returns false'. Refute it at one input. -/
def fnExactExchangeLegsWrong : ChangeSpec := { name := "fnExactExchangeLegs", fn := fun _ => fun
  | [d1, d2] => { results := [.lit (.bool false)], args := [d1, d2] }
  | _ => none }
def FnExactExchangeLegsWrongFalsely : Prop := fnExactExchangeLegsRow.holds Try.pinned (OpenSpec.ofChange fnExactExchangeLegsWrong)

/-- 'laws.FnExactThreeWebs': WHATEVER THE INPUT: true; the input reads as it did. -/
def fnExactThreeWebsSpec : ChangeSpec := { name := "fnExactThreeWebs", fn := fun _ => fun
  | [d1, d2] => { results := [.lit (.bool true)], args := [d1, d2] }
  | _ => none }
def fnExactThreeWebsRow : OpenClaim := { program := "ytnlhhbnoccobmaa", sum := "cc8adcef13ce07cccab2f88920a5114030f8343b46c961918191d2315136b49e", func := "loop.example/g01303/laws.FnExactThreeWebs", spec := "fnExactThreeWebs", unfollowed := true, recurses := true, apart := false }
def FnExactThreeWebsSaid : Prop := fnExactThreeWebsRow.holds Try.pinned (OpenSpec.ofChange fnExactThreeWebsSpec)

/-- ITS FALSE NEIGHBOUR: 'it returns false'. Refute it at one input. -/
def fnExactThreeWebsWrong : ChangeSpec := { name := "fnExactThreeWebs", fn := fun _ => fun
  | [d1, d2] => { results := [.lit (.bool false)], args := [d1, d2] }
  | _ => none }
def FnExactThreeWebsWrongFalsely : Prop := fnExactThreeWebsRow.holds Try.pinned (OpenSpec.ofChange fnExactThreeWebsWrong)

/-- 'laws.FnColourings': WHATEVER THE INPUT: true; the input reads as it did. -/
def fnColouringsSpec : ChangeSpec := { name := "fnColourings", fn := fun _ => fun
  | [d] => { results := [.lit (.bool true)], args := [d] }
  | _ => none }
def fnColouringsRow : OpenClaim := { program := "ytnlhhbnoccobmaa", sum := "cc8adcef13ce07cccab2f88920a5114030f8343b46c961918191d2315136b49e", func := "loop.example/g01303/laws.FnColourings", spec := "fnColourings", unfollowed := true, recurses := true, apart := false }
def FnColouringsSaid : Prop := fnColouringsRow.holds Try.pinned (OpenSpec.ofChange fnColouringsSpec)

/-- ITS FALSE NEIGHBOUR: 'it returns false'. Refute it at one input. -/
def fnColouringsWrong : ChangeSpec := { name := "fnColourings", fn := fun _ => fun
  | [d] => { results := [.lit (.bool false)], args := [d] }
  | _ => none }
def FnColouringsWrongFalsely : Prop := fnColouringsRow.holds Try.pinned (OpenSpec.ofChange fnColouringsWrong)

/-- 'laws.FnExactForkLegs': WHATEVER THE INPUT: true; the input reads as it did. -/
def fnExactForkLegsSpec : ChangeSpec := { name := "fnExactForkLegs", fn := fun _ => fun
  | [d1, d2] => { results := [.lit (.bool true)], args := [d1, d2] }
  | _ => none }
def fnExactForkLegsRow : OpenClaim := { program := "ytnlhhbnoccobmaa", sum := "cc8adcef13ce07cccab2f88920a5114030f8343b46c961918191d2315136b49e", func := "loop.example/g01303/laws.FnExactForkLegs", spec := "fnExactForkLegs", inPlace := ["slices.overlaps[int64]"], unfollowed := true, recurses := true, apart := false }
def FnExactForkLegsSaid : Prop := fnExactForkLegsRow.holds Try.pinned (OpenSpec.ofChange fnExactForkLegsSpec)

/-- ITS FALSE NEIGHBOUR: 'it returns false'. Refute it at one input. -/
def fnExactForkLegsWrong : ChangeSpec := { name := "fnExactForkLegs", fn := fun _ => fun
  | [d1, d2] => { results := [.lit (.bool false)], args := [d1, d2] }
  | _ => none }
def FnExactForkLegsWrongFalsely : Prop := fnExactForkLegsRow.holds Try.pinned (OpenSpec.ofChange fnExactForkLegsWrong)

/-- 'laws.FnExactPartsOfWeb': WHATEVER THE INPUT: true; the input reads as it did. -/
def fnExactPartsOfWebSpec : ChangeSpec := { name := "fnExactPartsOfWeb", fn := fun _ => fun
  | [d] => { results := [.lit (.bool true)], args := [d] }
  | _ => none }
def fnExactPartsOfWebRow : OpenClaim := { program := "ytnlhhbnoccobmaa", sum := "cc8adcef13ce07cccab2f88920a5114030f8343b46c961918191d2315136b49e", func := "loop.example/g01303/laws.FnExactPartsOfWeb", spec := "fnExactPartsOfWeb", unfollowed := true, recurses := true, apart := false }
def FnExactPartsOfWebSaid : Prop := fnExactPartsOfWebRow.holds Try.pinned (OpenSpec.ofChange fnExactPartsOfWebSpec)

/-- ITS FALSE NEIGHBOUR: 'it returns false'. Refute it at one input. -/
def fnExactPartsOfWebWrong : ChangeSpec := { name := "fnExactPartsOfWeb", fn := fun _ => fun
  | [d] => { results := [.lit (.bool false)], args := [d] }
  | _ => none }
def FnExactPartsOfWebWrongFalsely : Prop := fnExactPartsOfWebRow.holds Try.pinned (OpenSpec.ofChange fnExactPartsOfWebWrong)

/-- 'laws.FnExactLoopsOfWeb': WHATEVER THE INPUT: true; the input reads as it did. -/
def fnExactLoopsOfWebSpec : ChangeSpec := { name := "fnExactLoopsOfWeb", fn := fun _ => fun
  | [d] => { results := [.lit (.bool true)], args := [d] }
  | _ => none }
def fnExactLoopsOfWebRow : OpenClaim := { program := "ytnlhhbnoccobmaa", sum := "cc8adcef13ce07cccab2f88920a5114030f8343b46c961918191d2315136b49e", func := "loop.example/g01303/laws.FnExactLoopsOfWeb", spec := "fnExactLoopsOfWeb", unfollowed := true, recurses := true, apart := false }
def FnExactLoopsOfWebSaid : Prop := fnExactLoopsOfWebRow.holds Try.pinned (OpenSpec.ofChange fnExactLoopsOfWebSpec)

/-- ITS FALSE NEIGHBOUR: 'it returns false'. Refute it at one input. -/
def fnExactLoopsOfWebWrong : ChangeSpec := { name := "fnExactLoopsOfWeb", fn := fun _ => fun
  | [d] => { results := [.lit (.bool false)], args := [d] }
  | _ => none }
def FnExactLoopsOfWebWrongFalsely : Prop := fnExactLoopsOfWebRow.holds Try.pinned (OpenSpec.ofChange fnExactLoopsOfWebWrong)

/-- 'laws.FnCurves': WHATEVER THE INPUT: true; the input reads as it did. -/
def fnCurvesSpec : ChangeSpec := { name := "fnCurves", fn := fun _ => fun
  | [d] => { results := [.lit (.bool true)], args := [d] }
  | _ => none }
def fnCurvesRow : OpenClaim := { program := "ytnlhhbnoccobmaa", sum := "cc8adcef13ce07cccab2f88920a5114030f8343b46c961918191d2315136b49e", func := "loop.example/g01303/laws.FnCurves", spec := "fnCurves", unfollowed := true, recurses := true, apart := false }
def FnCurvesSaid : Prop := fnCurvesRow.holds Try.pinned (OpenSpec.ofChange fnCurvesSpec)

/-- ITS FALSE NEIGHBOUR: 'it returns false'. Refute it at one input. -/
def fnCurvesWrong : ChangeSpec := { name := "fnCurves", fn := fun _ => fun
  | [d] => { results := [.lit (.bool false)], args := [d] }
  | _ => none }
def FnCurvesWrongFalsely : Prop := fnCurvesRow.holds Try.pinned (OpenSpec.ofChange fnCurvesWrong)

/-- 'laws.FnExactInterlacePolynomial': WHATEVER THE INPUT: true; the input reads as it did. -/
def fnExactInterlacePolynomialSpec : ChangeSpec := { name := "fnExactInterlacePolynomial", fn := fun _ => fun
  | [d] => { results := [.lit (.bool true)], args := [d] }
  | _ => none }
def fnExactInterlacePolynomialRow : OpenClaim := { program := "ytnlhhbnoccobmaa", sum := "cc8adcef13ce07cccab2f88920a5114030f8343b46c961918191d2315136b49e", func := "loop.example/g01303/laws.FnExactInterlacePolynomial", spec := "fnExactInterlacePolynomial", unfollowed := true, recurses := true, apart := false }
def FnExactInterlacePolynomialSaid : Prop := fnExactInterlacePolynomialRow.holds Try.pinned (OpenSpec.ofChange fnExactInterlacePolynomialSpec)

/-- ITS FALSE NEIGHBOUR: 'it returns false'. Refute it at one input. -/
def fnExactInterlacePolynomialWrong : ChangeSpec := { name := "fnExactInterlacePolynomial", fn := fun _ => fun
  | [d] => { results := [.lit (.bool false)], args := [d] }
  | _ => none }
def FnExactInterlacePolynomialWrongFalsely : Prop := fnExactInterlacePolynomialRow.holds Try.pinned (OpenSpec.ofChange fnExactInterlacePolynomialWrong)

/-- 'laws.FnExactValueOfInterlace': WHATEVER THE INPUT: true; the input reads as it did. -/
def fnExactValueOfInterlaceSpec : ChangeSpec := { name := "fnExactValueOfInterlace", fn := fun _ => fun
  | [d1, d2] => { results := [.lit (.bool true)], args := [d1, d2] }
  | _ => none }
def fnExactValueOfInterlaceRow : OpenClaim := { program := "ytnlhhbnoccobmaa", sum := "cc8adcef13ce07cccab2f88920a5114030f8343b46c961918191d2315136b49e", func := "loop.example/g01303/laws.FnExactValueOfInterlace", spec := "fnExactValueOfInterlace", unfollowed := true, recurses := true, apart := false }
def FnExactValueOfInterlaceSaid : Prop := fnExactValueOfInterlaceRow.holds Try.pinned (OpenSpec.ofChange fnExactValueOfInterlaceSpec)

/-- ITS FALSE NEIGHBOUR: 'it returns false'. Refute it at one input. -/
def fnExactValueOfInterlaceWrong : ChangeSpec := { name := "fnExactValueOfInterlace", fn := fun _ => fun
  | [d1, d2] => { results := [.lit (.bool false)], args := [d1, d2] }
  | _ => none }
def FnExactValueOfInterlaceWrongFalsely : Prop := fnExactValueOfInterlaceRow.holds Try.pinned (OpenSpec.ofChange fnExactValueOfInterlaceWrong)

/- THE SECOND FORM. 'bulk': how many values and letters a reading holds, each counted each time it is reached (what is shared counts as often as it is met; a slice's spare places count too). A statement '..UptoSaid' is the law's where the arguments, and the package variables that the reading takes, are together of bulk at most 1048576: NARROWER than '..Said'. Prove '..Said' where nothing that the law and all that it calls make is longer than what came in: it says more and counts as full. Else prove '..UptoSaid'. A law counts once. -/
mutual
def uptoBulk {H : Type} : DataW H → Nat
  | .lit (.string bytes) => bytes.length + 1
  | .lit _ => 1
  | .nil => 1
  | .ptr d => uptoBulk d + 1
  | .slice elems spare => uptoBulkAll elems + uptoBulkAll spare + 1
  | .agg parts => uptoBulkAll parts + 1
  | .iface _ d => uptoBulk d + 1
  | .map entries => uptoBulkEntries entries + 1
  | .held _ => 1
def uptoBulkAll {H : Type} : List (DataW H) → Nat
  | [] => 0
  | d :: r => uptoBulk d + uptoBulkAll r
def uptoBulkEntries {H : Type} : List (Lit × DataW H) → Nat
  | [] => 0
  | x :: r => uptoBulkEntry x + uptoBulkEntries r
def uptoBulkEntry {H : Type} : Lit × DataW H → Nat
  | (.string bytes, d) => bytes.length + uptoBulk d + 1
  | (_, d) => uptoBulk d + 1
 end
def uptoSmall : (H : Type) → List (DataW H) → Bool := fun _ ds => decide (uptoBulkAll ds ≤ 1048576)
def OpenSpec.upto (s : _root_.Go.ChangeSpec) : _root_.Go.OpenSpec := { _root_.Go.OpenSpec.ofChange s with cond := some uptoSmall }

/-- 'laws.FnExactIsWeb', WHERE WHAT IT READS IS OF BULK AT MOST 1048576: true; the input reads as it did. -/
def fnExactIsWebUptoRow : OpenClaim := { program := "ytnlhhbnoccobmaa", sum := "cc8adcef13ce07cccab2f88920a5114030f8343b46c961918191d2315136b49e", func := "loop.example/g01303/laws.FnExactIsWeb", spec := "fnExactIsWeb", unfollowed := true, recurses := true, apart := false, narrowed := true }
def FnExactIsWebUptoSaid : Prop := fnExactIsWebUptoRow.holds Try.pinned (OpenSpec.upto fnExactIsWebSpec)

/-- 'laws.FnExactNewDesk', WHERE WHAT IT READS IS OF BULK AT MOST 1048576: true; the input reads as it did. -/
def fnExactNewDeskUptoRow : OpenClaim := { program := "ytnlhhbnoccobmaa", sum := "cc8adcef13ce07cccab2f88920a5114030f8343b46c961918191d2315136b49e", func := "loop.example/g01303/laws.FnExactNewDesk", spec := "fnExactNewDesk", apart := false, narrowed := true }
def FnExactNewDeskUptoSaid : Prop := fnExactNewDeskUptoRow.holds Try.pinned (OpenSpec.upto fnExactNewDeskSpec)

/-- 'laws.FnExactDegreeOfWeb', WHERE WHAT IT READS IS OF BULK AT MOST 1048576: true; the input reads as it did. -/
def fnExactDegreeOfWebUptoRow : OpenClaim := { program := "ytnlhhbnoccobmaa", sum := "cc8adcef13ce07cccab2f88920a5114030f8343b46c961918191d2315136b49e", func := "loop.example/g01303/laws.FnExactDegreeOfWeb", spec := "fnExactDegreeOfWeb", unfollowed := true, recurses := true, apart := false, narrowed := true }
def FnExactDegreeOfWebUptoSaid : Prop := fnExactDegreeOfWebUptoRow.holds Try.pinned (OpenSpec.upto fnExactDegreeOfWebSpec)

/-- 'laws.FnExactTurnFork', WHERE WHAT IT READS IS OF BULK AT MOST 1048576: true; the input reads as it did. -/
def fnExactTurnForkUptoRow : OpenClaim := { program := "ytnlhhbnoccobmaa", sum := "cc8adcef13ce07cccab2f88920a5114030f8343b46c961918191d2315136b49e", func := "loop.example/g01303/laws.FnExactTurnFork", spec := "fnExactTurnFork", unfollowed := true, recurses := true, apart := false, narrowed := true }
def FnExactTurnForkUptoSaid : Prop := fnExactTurnForkUptoRow.holds Try.pinned (OpenSpec.upto fnExactTurnForkSpec)

/-- 'laws.FnExactColouringPolynomial', WHERE WHAT IT READS IS OF BULK AT MOST 1048576: true; the input reads as it did. -/
def fnExactColouringPolynomialUptoRow : OpenClaim := { program := "ytnlhhbnoccobmaa", sum := "cc8adcef13ce07cccab2f88920a5114030f8343b46c961918191d2315136b49e", func := "loop.example/g01303/laws.FnExactColouringPolynomial", spec := "fnExactColouringPolynomial", unfollowed := true, recurses := true, apart := false, narrowed := true }
def FnExactColouringPolynomialUptoSaid : Prop := fnExactColouringPolynomialUptoRow.holds Try.pinned (OpenSpec.upto fnExactColouringPolynomialSpec)

/-- 'laws.FnExactCountColourings', WHERE WHAT IT READS IS OF BULK AT MOST 1048576: true; the input reads as it did. -/
def fnExactCountColouringsUptoRow : OpenClaim := { program := "ytnlhhbnoccobmaa", sum := "cc8adcef13ce07cccab2f88920a5114030f8343b46c961918191d2315136b49e", func := "loop.example/g01303/laws.FnExactCountColourings", spec := "fnExactCountColourings", unfollowed := true, recurses := true, apart := false, narrowed := true }
def FnExactCountColouringsUptoSaid : Prop := fnExactCountColouringsUptoRow.holds Try.pinned (OpenSpec.upto fnExactCountColouringsSpec)

/-- 'laws.FnExactExchangeLegs', WHERE WHAT IT READS IS OF BULK AT MOST 1048576: true; the input reads as it did. -/
def fnExactExchangeLegsUptoRow : OpenClaim := { program := "ytnlhhbnoccobmaa", sum := "cc8adcef13ce07cccab2f88920a5114030f8343b46c961918191d2315136b49e", func := "loop.example/g01303/laws.FnExactExchangeLegs", spec := "fnExactExchangeLegs", unfollowed := true, recurses := true, apart := false, narrowed := true }
def FnExactExchangeLegsUptoSaid : Prop := fnExactExchangeLegsUptoRow.holds Try.pinned (OpenSpec.upto fnExactExchangeLegsSpec)

/-- 'laws.FnExactThreeWebs', WHERE WHAT IT READS IS OF BULK AT MOST 1048576: true; the input reads as it did. -/
def fnExactThreeWebsUptoRow : OpenClaim := { program := "ytnlhhbnoccobmaa", sum := "cc8adcef13ce07cccab2f88920a5114030f8343b46c961918191d2315136b49e", func := "loop.example/g01303/laws.FnExactThreeWebs", spec := "fnExactThreeWebs", unfollowed := true, recurses := true, apart := false, narrowed := true }
def FnExactThreeWebsUptoSaid : Prop := fnExactThreeWebsUptoRow.holds Try.pinned (OpenSpec.upto fnExactThreeWebsSpec)

/-- 'laws.FnColourings', WHERE WHAT IT READS IS OF BULK AT MOST 1048576: true; the input reads as it did. -/
def fnColouringsUptoRow : OpenClaim := { program := "ytnlhhbnoccobmaa", sum := "cc8adcef13ce07cccab2f88920a5114030f8343b46c961918191d2315136b49e", func := "loop.example/g01303/laws.FnColourings", spec := "fnColourings", unfollowed := true, recurses := true, apart := false, narrowed := true }
def FnColouringsUptoSaid : Prop := fnColouringsUptoRow.holds Try.pinned (OpenSpec.upto fnColouringsSpec)

/-- 'laws.FnExactForkLegs', WHERE WHAT IT READS IS OF BULK AT MOST 1048576: true; the input reads as it did. -/
def fnExactForkLegsUptoRow : OpenClaim := { program := "ytnlhhbnoccobmaa", sum := "cc8adcef13ce07cccab2f88920a5114030f8343b46c961918191d2315136b49e", func := "loop.example/g01303/laws.FnExactForkLegs", spec := "fnExactForkLegs", inPlace := ["slices.overlaps[int64]"], unfollowed := true, recurses := true, apart := false, narrowed := true }
def FnExactForkLegsUptoSaid : Prop := fnExactForkLegsUptoRow.holds Try.pinned (OpenSpec.upto fnExactForkLegsSpec)

/-- 'laws.FnExactPartsOfWeb', WHERE WHAT IT READS IS OF BULK AT MOST 1048576: true; the input reads as it did. -/
def fnExactPartsOfWebUptoRow : OpenClaim := { program := "ytnlhhbnoccobmaa", sum := "cc8adcef13ce07cccab2f88920a5114030f8343b46c961918191d2315136b49e", func := "loop.example/g01303/laws.FnExactPartsOfWeb", spec := "fnExactPartsOfWeb", unfollowed := true, recurses := true, apart := false, narrowed := true }
def FnExactPartsOfWebUptoSaid : Prop := fnExactPartsOfWebUptoRow.holds Try.pinned (OpenSpec.upto fnExactPartsOfWebSpec)

/-- 'laws.FnExactLoopsOfWeb', WHERE WHAT IT READS IS OF BULK AT MOST 1048576: true; the input reads as it did. -/
def fnExactLoopsOfWebUptoRow : OpenClaim := { program := "ytnlhhbnoccobmaa", sum := "cc8adcef13ce07cccab2f88920a5114030f8343b46c961918191d2315136b49e", func := "loop.example/g01303/laws.FnExactLoopsOfWeb", spec := "fnExactLoopsOfWeb", unfollowed := true, recurses := true, apart := false, narrowed := true }
def FnExactLoopsOfWebUptoSaid : Prop := fnExactLoopsOfWebUptoRow.holds Try.pinned (OpenSpec.upto fnExactLoopsOfWebSpec)

/-- 'laws.FnCurves', WHERE WHAT IT READS IS OF BULK AT MOST 1048576: true; the input reads as it did. -/
def fnCurvesUptoRow : OpenClaim := { program := "ytnlhhbnoccobmaa", sum := "cc8adcef13ce07cccab2f88920a5114030f8343b46c961918191d2315136b49e", func := "loop.example/g01303/laws.FnCurves", spec := "fnCurves", unfollowed := true, recurses := true, apart := false, narrowed := true }
def FnCurvesUptoSaid : Prop := fnCurvesUptoRow.holds Try.pinned (OpenSpec.upto fnCurvesSpec)

/-- 'laws.FnExactInterlacePolynomial', WHERE WHAT IT READS IS OF BULK AT MOST 1048576: true; the input reads as it did. -/
def fnExactInterlacePolynomialUptoRow : OpenClaim := { program := "ytnlhhbnoccobmaa", sum := "cc8adcef13ce07cccab2f88920a5114030f8343b46c961918191d2315136b49e", func := "loop.example/g01303/laws.FnExactInterlacePolynomial", spec := "fnExactInterlacePolynomial", unfollowed := true, recurses := true, apart := false, narrowed := true }
def FnExactInterlacePolynomialUptoSaid : Prop := fnExactInterlacePolynomialUptoRow.holds Try.pinned (OpenSpec.upto fnExactInterlacePolynomialSpec)

/-- 'laws.FnExactValueOfInterlace', WHERE WHAT IT READS IS OF BULK AT MOST 1048576: true; the input reads as it did. -/
def fnExactValueOfInterlaceUptoRow : OpenClaim := { program := "ytnlhhbnoccobmaa", sum := "cc8adcef13ce07cccab2f88920a5114030f8343b46c961918191d2315136b49e", func := "loop.example/g01303/laws.FnExactValueOfInterlace", spec := "fnExactValueOfInterlace", unfollowed := true, recurses := true, apart := false, narrowed := true }
def FnExactValueOfInterlaceUptoSaid : Prop := fnExactValueOfInterlaceUptoRow.holds Try.pinned (OpenSpec.upto fnExactValueOfInterlaceSpec)

end Rows
end Go.Proofs.Ytnlhhbnoccobmaa
