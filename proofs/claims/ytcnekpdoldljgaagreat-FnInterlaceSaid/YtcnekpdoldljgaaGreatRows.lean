/-
  No cell of these rows narrows 'for every input' (looked for: loops, veiled, ifaces, maps, wideKeys, modest, calm, conditions, laid).
  DERIVED. THE GIVEN ROWS OF THIS SEAT. 4 by the template 'for every input the law returns true; each argument reads behind the call as it read before'; 0 by the template 'total and deterministic' (their statements: YtcnekpdoldljgaaGreatTotals.lean).
  GIVEN WITH THE SEED: the statements are not yours to turn. If you find one false, say at which input.
  Laid BY PROGRAM, IN A SANDBOX (cutbox-rows.mjs): the forced cells as the released guide's own fill.sh prints them over the translation e7f20d8f4ed4828e… (all of the seat's roots in one cut). By AI agents, Wed Nov 11 2026. No macro, syntax, notation, axiom, sorry.
-/
import Derived.Test.YtcnekpdoldljgaaGreatChecked
import GoSem.Claim
import GoSem.ClaimJoined
import GoSem.ClaimMapViews
import Derived.JoinedTies
import Derived.KernelRfl
namespace Go.Proofs.YtcnekpdoldljgaaGreat
/- THE CELL 'sum', in the pinned program and in every row, IS THE sha256 OF THE DUMP (.gsa) THAT YtcnekpdoldljgaaGreatProg.lean LOADS. Nothing in Lean hashes anything: it is a label: what it is worth is what the hold of that sum in a sandbox is worth. -/
noncomputable def Tryz.pinned : Pinned := { name := "ytcnekpdoldljgaagreat", sum := "e7f20d8f4ed4828e7cad63ff0614a0cd16bc3e00881542ebabc56c1d162c2ba3", checked := Tryz.checked }
namespace Rows
def none {H : Type} : Left H := { results := [], args := [] }

/-- 'laws.FnExactAntipodeOf': WHATEVER THE INPUT: true; the input reads as it did. -/
def fnExactAntipodeOfSpec : ChangeSpec := { name := "fnExactAntipodeOf", fn := fun _ => fun
  | [d] => { results := [.lit (.bool true)], args := [d] }
  | _ => none }
def fnExactAntipodeOfRow : OpenClaim := { program := "ytcnekpdoldljgaagreat", sum := "e7f20d8f4ed4828e7cad63ff0614a0cd16bc3e00881542ebabc56c1d162c2ba3", func := "loop.example/g01303/laws.FnExactAntipodeOf", spec := "fnExactAntipodeOf", unfollowed := true, recurses := true, apart := false }
def FnExactAntipodeOfSaid : Prop := fnExactAntipodeOfRow.holds Tryz.pinned (OpenSpec.ofChange fnExactAntipodeOfSpec)

/-- ITS FALSE NEIGHBOUR: 'it returns false'. Refute it at one input. -/
def fnExactAntipodeOfWrong : ChangeSpec := { name := "fnExactAntipodeOf", fn := fun _ => fun
  | [d] => { results := [.lit (.bool false)], args := [d] }
  | _ => none }
def FnExactAntipodeOfWrongFalsely : Prop := fnExactAntipodeOfRow.holds Tryz.pinned (OpenSpec.ofChange fnExactAntipodeOfWrong)

/-- 'laws.FnInterlace': WHATEVER THE INPUT: true; the input reads as it did. -/
def fnInterlaceSpec : ChangeSpec := { name := "fnInterlace", fn := fun _ => fun
  | [d] => { results := [.lit (.bool true)], args := [d] }
  | _ => none }
def fnInterlaceRow : OpenClaim := { program := "ytcnekpdoldljgaagreat", sum := "e7f20d8f4ed4828e7cad63ff0614a0cd16bc3e00881542ebabc56c1d162c2ba3", func := "loop.example/g01303/laws.FnInterlace", spec := "fnInterlace", unfollowed := true, recurses := true, apart := false }
def FnInterlaceSaid : Prop := fnInterlaceRow.holds Tryz.pinned (OpenSpec.ofChange fnInterlaceSpec)

/-- ITS FALSE NEIGHBOUR: 'it returns false'. Refute it at one input. -/
def fnInterlaceWrong : ChangeSpec := { name := "fnInterlace", fn := fun _ => fun
  | [d] => { results := [.lit (.bool false)], args := [d] }
  | _ => none }
def FnInterlaceWrongFalsely : Prop := fnInterlaceRow.holds Tryz.pinned (OpenSpec.ofChange fnInterlaceWrong)

/-- 'laws.FnExactPrimitivePart': WHATEVER THE INPUT: true; the input reads as it did. -/
def fnExactPrimitivePartSpec : ChangeSpec := { name := "fnExactPrimitivePart", fn := fun _ => fun
  | [d] => { results := [.lit (.bool true)], args := [d] }
  | _ => none }
def fnExactPrimitivePartRow : OpenClaim := { program := "ytcnekpdoldljgaagreat", sum := "e7f20d8f4ed4828e7cad63ff0614a0cd16bc3e00881542ebabc56c1d162c2ba3", func := "loop.example/g01303/laws.FnExactPrimitivePart", spec := "fnExactPrimitivePart", unfollowed := true, recurses := true, apart := false }
def FnExactPrimitivePartSaid : Prop := fnExactPrimitivePartRow.holds Tryz.pinned (OpenSpec.ofChange fnExactPrimitivePartSpec)

/-- ITS FALSE NEIGHBOUR: 'it returns false'. Refute it at one input. -/
def fnExactPrimitivePartWrong : ChangeSpec := { name := "fnExactPrimitivePart", fn := fun _ => fun
  | [d] => { results := [.lit (.bool false)], args := [d] }
  | _ => none }
def FnExactPrimitivePartWrongFalsely : Prop := fnExactPrimitivePartRow.holds Tryz.pinned (OpenSpec.ofChange fnExactPrimitivePartWrong)

/-- 'laws.FnComplements': WHATEVER THE INPUT: true; the input reads as it did. -/
def fnComplementsSpec : ChangeSpec := { name := "fnComplements", fn := fun _ => fun
  | [d] => { results := [.lit (.bool true)], args := [d] }
  | _ => none }
def fnComplementsRow : OpenClaim := { program := "ytcnekpdoldljgaagreat", sum := "e7f20d8f4ed4828e7cad63ff0614a0cd16bc3e00881542ebabc56c1d162c2ba3", func := "loop.example/g01303/laws.FnComplements", spec := "fnComplements", unfollowed := true, recurses := true, apart := false }
def FnComplementsSaid : Prop := fnComplementsRow.holds Tryz.pinned (OpenSpec.ofChange fnComplementsSpec)

/-- ITS FALSE NEIGHBOUR: 'it returns false'. Refute it at one input. -/
def fnComplementsWrong : ChangeSpec := { name := "fnComplements", fn := fun _ => fun
  | [d] => { results := [.lit (.bool false)], args := [d] }
  | _ => none }
def FnComplementsWrongFalsely : Prop := fnComplementsRow.holds Tryz.pinned (OpenSpec.ofChange fnComplementsWrong)

/- THE SECOND FORM. 'bulk': how many values and letters a reading holds, each counted each time it is reached (what is shared counts as often as it is met; a slice's spare places count too). A statement '..UptoSaid' is the law's where the arguments, and the package variables that the reading takes, are together of bulk at most 1048576: NARROWER than '..Said'. Prove '..Said' where nothing that the law and all that it calls make is longer than what came in: it says more and counts as full. Else prove '..UptoSaid'. A law counts once. -/
mutual
def uptoBulk {H : Type} : DataW H → Nat
  | .lit (.string bytes) => bytes.length + 1
  | .lit _ => 1
  | .nil => 1
  | .ptr d => uptoBulk d + 1
  | .slice elems spare => uptoBulkAll elems + uptoBulkAll spare + 1
  | .agg parts => uptoBulkAll parts + 1
  | .iface _ d => uptoBulk d + 1
  | .map entries => uptoBulkEntries entries + 1
  | .held _ => 1
def uptoBulkAll {H : Type} : List (DataW H) → Nat
  | [] => 0
  | d :: r => uptoBulk d + uptoBulkAll r
def uptoBulkEntries {H : Type} : List (Lit × DataW H) → Nat
  | [] => 0
  | x :: r => uptoBulkEntry x + uptoBulkEntries r
def uptoBulkEntry {H : Type} : Lit × DataW H → Nat
  | (.string bytes, d) => bytes.length + uptoBulk d + 1
  | (_, d) => uptoBulk d + 1
 end
def uptoSmall : (H : Type) → List (DataW H) → Bool := fun _ ds => decide (uptoBulkAll ds ≤ 1048576)
def OpenSpec.upto (s : _root_.Go.ChangeSpec) : _root_.Go.OpenSpec := { _root_.Go.OpenSpec.ofChange s with cond := some uptoSmall }

/-- 'laws.FnExactAntipodeOf', WHERE WHAT IT READS IS OF BULK AT MOST 1048576: true; the input reads as it did. -/
def fnExactAntipodeOfUptoRow : OpenClaim := { program := "ytcnekpdoldljgaagreat", sum := "e7f20d8f4ed4828e7cad63ff0614a0cd16bc3e00881542ebabc56c1d162c2ba3", func := "loop.example/g01303/laws.FnExactAntipodeOf", spec := "fnExactAntipodeOf", unfollowed := true, recurses := true, apart := false, narrowed := true }
def FnExactAntipodeOfUptoSaid : Prop := fnExactAntipodeOfUptoRow.holds Tryz.pinned (OpenSpec.upto fnExactAntipodeOfSpec)

/-- 'laws.FnInterlace', WHERE WHAT IT READS IS OF BULK AT MOST 1048576: true; the input reads as it did. -/
def fnInterlaceUptoRow : OpenClaim := { program := "ytcnekpdoldljgaagreat", sum := "e7f20d8f4ed4828e7cad63ff0614a0cd16bc3e00881542ebabc56c1d162c2ba3", func := "loop.example/g01303/laws.FnInterlace", spec := "fnInterlace", unfollowed := true, recurses := true, apart := false, narrowed := true }
def FnInterlaceUptoSaid : Prop := fnInterlaceUptoRow.holds Tryz.pinned (OpenSpec.upto fnInterlaceSpec)

/-- 'laws.FnExactPrimitivePart', WHERE WHAT IT READS IS OF BULK AT MOST 1048576: true; the input reads as it did. -/
def fnExactPrimitivePartUptoRow : OpenClaim := { program := "ytcnekpdoldljgaagreat", sum := "e7f20d8f4ed4828e7cad63ff0614a0cd16bc3e00881542ebabc56c1d162c2ba3", func := "loop.example/g01303/laws.FnExactPrimitivePart", spec := "fnExactPrimitivePart", unfollowed := true, recurses := true, apart := false, narrowed := true }
def FnExactPrimitivePartUptoSaid : Prop := fnExactPrimitivePartUptoRow.holds Tryz.pinned (OpenSpec.upto fnExactPrimitivePartSpec)

/-- 'laws.FnComplements', WHERE WHAT IT READS IS OF BULK AT MOST 1048576: true; the input reads as it did. -/
def fnComplementsUptoRow : OpenClaim := { program := "ytcnekpdoldljgaagreat", sum := "e7f20d8f4ed4828e7cad63ff0614a0cd16bc3e00881542ebabc56c1d162c2ba3", func := "loop.example/g01303/laws.FnComplements", spec := "fnComplements", unfollowed := true, recurses := true, apart := false, narrowed := true }
def FnComplementsUptoSaid : Prop := fnComplementsUptoRow.holds Tryz.pinned (OpenSpec.upto fnComplementsSpec)

end Rows
end Go.Proofs.YtcnekpdoldljgaaGreat
