/- The row of the law FnInterlace, out of its plain law and the walk. -/
import Derived.Test.YtcnekpdoldljgaaGreatZFnInterlace7
import Derived.Test.YtcnekpdoldljgaaGreatRows
import Derived.JoinedOf
import Derived.KernelRfl
import Derived.WalkKit
import Derived.ProofKit
import Derived.OpenShut
import Derived.ShutString
import Derived.ChangeOld
import Derived.Below
import Derived.SizedLaws
section
namespace Go.Proofs.YtcnekpdoldljgaaGreat.Head
open Go
set_option maxRecDepth 100000
theorem and_ok {a b : Bool} (ha : a = true) (hb : b = true) : (a && b) = true := by rw [ha, hb]; rfl
theorem signs : Tryz.prog.initOrder.toList = [104, 97, 114, 110, 101, 115, 115, 32, 49, 51, 102, 48, 101, 55, 101, 97, 54, 57, 48, 101, 48, 55, 57, 54, 52, 99, 97, 53, 98, 100, 51, 100, 99, 101, 51, 100, 99, 99, 99, 51, 55, 55, 49, 100, 97, 55, 100, 49, 100, 48, 48, 98, 56, 52, 57, 53, 55, 49, 52, 101, 102, 98, 56, 99, 51, 51, 100, 102, 99, 97, 53, 56, 32, 99, 117, 116, 32, 97, 116, 32, 108, 111, 111, 112, 46, 101, 120, 97, 109, 112, 108, 101, 47, 103, 48, 49, 51, 48, 51, 47, 108, 97, 119, 115, 46, 70, 110, 69, 120, 97, 99, 116, 65, 110, 116, 105, 112, 111, 100, 101, 79, 102, 32, 108, 111, 111, 112, 46, 101, 120, 97, 109, 112, 108, 101, 47, 103, 48, 49, 51, 48, 51, 47, 108, 97, 119, 115, 46, 70, 110, 73, 110, 116, 101, 114, 108, 97, 99, 101, 32, 108, 111, 111, 112, 46, 101, 120, 97, 109, 112, 108, 101, 47, 103, 48, 49, 51, 48, 51, 47, 108, 97, 119, 115, 46, 70, 110, 69, 120, 97, 99, 116, 80, 114, 105, 109, 105, 116, 105, 118, 101, 80, 97, 114, 116, 32, 108, 111, 111, 112, 46, 101, 120, 97, 109, 112, 108, 101, 47, 103, 48, 49, 51, 48, 51, 47, 108, 97, 119, 115, 46, 70, 110, 67, 111, 109, 112, 108, 101, 109, 101, 110, 116, 115].map Char.ofNat := by
  have h : Tryz.prog.initOrder = String.ofList ([104, 97, 114, 110, 101, 115, 115, 32, 49, 51, 102, 48, 101, 55, 101, 97, 54, 57, 48, 101, 48, 55, 57, 54, 52, 99, 97, 53, 98, 100, 51, 100, 99, 101, 51, 100, 99, 99, 99, 51, 55, 55, 49, 100, 97, 55, 100, 49, 100, 48, 48, 98, 56, 52, 57, 53, 55, 49, 52, 101, 102, 98, 56, 99, 51, 51, 100, 102, 99, 97, 53, 56, 32, 99, 117, 116, 32, 97, 116, 32, 108, 111, 111, 112, 46, 101, 120, 97, 109, 112, 108, 101, 47, 103, 48, 49, 51, 48, 51, 47, 108, 97, 119, 115, 46, 70, 110, 69, 120, 97, 99, 116, 65, 110, 116, 105, 112, 111, 100, 101, 79, 102, 32, 108, 111, 111, 112, 46, 101, 120, 97, 109, 112, 108, 101, 47, 103, 48, 49, 51, 48, 51, 47, 108, 97, 119, 115, 46, 70, 110, 73, 110, 116, 101, 114, 108, 97, 99, 101, 32, 108, 111, 111, 112, 46, 101, 120, 97, 109, 112, 108, 101, 47, 103, 48, 49, 51, 48, 51, 47, 108, 97, 119, 115, 46, 70, 110, 69, 120, 97, 99, 116, 80, 114, 105, 109, 105, 116, 105, 118, 101, 80, 97, 114, 116, 32, 108, 111, 111, 112, 46, 101, 120, 97, 109, 112, 108, 101, 47, 103, 48, 49, 51, 48, 51, 47, 108, 97, 119, 115, 46, 70, 110, 67, 111, 109, 112, 108, 101, 109, 101, 110, 116, 115].map Char.ofNat) := by kernel_rfl
  rw [h, String.toList_ofList]
theorem words : wordsSigns Tryz.prog.initOrder.toList = [[104, 97, 114, 110, 101, 115, 115].map Char.ofNat, [49, 51, 102, 48, 101, 55, 101, 97, 54, 57, 48, 101, 48, 55, 57, 54, 52, 99, 97, 53, 98, 100, 51, 100, 99, 101, 51, 100, 99, 99, 99, 51, 55, 55, 49, 100, 97, 55, 100, 49, 100, 48, 48, 98, 56, 52, 57, 53, 55, 49, 52, 101, 102, 98, 56, 99, 51, 51, 100, 102, 99, 97, 53, 56].map Char.ofNat, [99, 117, 116].map Char.ofNat, [97, 116].map Char.ofNat, [108, 111, 111, 112, 46, 101, 120, 97, 109, 112, 108, 101, 47, 103, 48, 49, 51, 48, 51, 47, 108, 97, 119, 115, 46, 70, 110, 69, 120, 97, 99, 116, 65, 110, 116, 105, 112, 111, 100, 101, 79, 102].map Char.ofNat, [108, 111, 111, 112, 46, 101, 120, 97, 109, 112, 108, 101, 47, 103, 48, 49, 51, 48, 51, 47, 108, 97, 119, 115, 46, 70, 110, 73, 110, 116, 101, 114, 108, 97, 99, 101].map Char.ofNat, [108, 111, 111, 112, 46, 101, 120, 97, 109, 112, 108, 101, 47, 103, 48, 49, 51, 48, 51, 47, 108, 97, 119, 115, 46, 70, 110, 69, 120, 97, 99, 116, 80, 114, 105, 109, 105, 116, 105, 118, 101, 80, 97, 114, 116].map Char.ofNat, [108, 111, 111, 112, 46, 101, 120, 97, 109, 112, 108, 101, 47, 103, 48, 49, 51, 48, 51, 47, 108, 97, 119, 115, 46, 70, 110, 67, 111, 109, 112, 108, 101, 109, 101, 110, 116, 115].map Char.ofNat] := by
  rw [signs]
  kernel_rfl
theorem behind : behindMainWord [[104, 97, 114, 110, 101, 115, 115].map Char.ofNat, [49, 51, 102, 48, 101, 55, 101, 97, 54, 57, 48, 101, 48, 55, 57, 54, 52, 99, 97, 53, 98, 100, 51, 100, 99, 101, 51, 100, 99, 99, 99, 51, 55, 55, 49, 100, 97, 55, 100, 49, 100, 48, 48, 98, 56, 52, 57, 53, 55, 49, 52, 101, 102, 98, 56, 99, 51, 51, 100, 102, 99, 97, 53, 56].map Char.ofNat, [99, 117, 116].map Char.ofNat, [97, 116].map Char.ofNat, [108, 111, 111, 112, 46, 101, 120, 97, 109, 112, 108, 101, 47, 103, 48, 49, 51, 48, 51, 47, 108, 97, 119, 115, 46, 70, 110, 69, 120, 97, 99, 116, 65, 110, 116, 105, 112, 111, 100, 101, 79, 102].map Char.ofNat, [108, 111, 111, 112, 46, 101, 120, 97, 109, 112, 108, 101, 47, 103, 48, 49, 51, 48, 51, 47, 108, 97, 119, 115, 46, 70, 110, 73, 110, 116, 101, 114, 108, 97, 99, 101].map Char.ofNat, [108, 111, 111, 112, 46, 101, 120, 97, 109, 112, 108, 101, 47, 103, 48, 49, 51, 48, 51, 47, 108, 97, 119, 115, 46, 70, 110, 69, 120, 97, 99, 116, 80, 114, 105, 109, 105, 116, 105, 118, 101, 80, 97, 114, 116].map Char.ofNat, [108, 111, 111, 112, 46, 101, 120, 97, 109, 112, 108, 101, 47, 103, 48, 49, 51, 48, 51, 47, 108, 97, 119, 115, 46, 70, 110, 67, 111, 109, 112, 108, 101, 109, 101, 110, 116, 115].map Char.ofNat] = [[99, 117, 116].map Char.ofNat, [97, 116].map Char.ofNat, [108, 111, 111, 112, 46, 101, 120, 97, 109, 112, 108, 101, 47, 103, 48, 49, 51, 48, 51, 47, 108, 97, 119, 115, 46, 70, 110, 69, 120, 97, 99, 116, 65, 110, 116, 105, 112, 111, 100, 101, 79, 102].map Char.ofNat, [108, 111, 111, 112, 46, 101, 120, 97, 109, 112, 108, 101, 47, 103, 48, 49, 51, 48, 51, 47, 108, 97, 119, 115, 46, 70, 110, 73, 110, 116, 101, 114, 108, 97, 99, 101].map Char.ofNat, [108, 111, 111, 112, 46, 101, 120, 97, 109, 112, 108, 101, 47, 103, 48, 49, 51, 48, 51, 47, 108, 97, 119, 115, 46, 70, 110, 69, 120, 97, 99, 116, 80, 114, 105, 109, 105, 116, 105, 118, 101, 80, 97, 114, 116].map Char.ofNat, [108, 111, 111, 112, 46, 101, 120, 97, 109, 112, 108, 101, 47, 103, 48, 49, 51, 48, 51, 47, 108, 97, 119, 115, 46, 70, 110, 67, 111, 109, 112, 108, 101, 109, 101, 110, 116, 115].map Char.ofNat] := by kernel_rfl
theorem strip : stripLifts liftWords [[99, 117, 116].map Char.ofNat, [97, 116].map Char.ofNat, [108, 111, 111, 112, 46, 101, 120, 97, 109, 112, 108, 101, 47, 103, 48, 49, 51, 48, 51, 47, 108, 97, 119, 115, 46, 70, 110, 69, 120, 97, 99, 116, 65, 110, 116, 105, 112, 111, 100, 101, 79, 102].map Char.ofNat, [108, 111, 111, 112, 46, 101, 120, 97, 109, 112, 108, 101, 47, 103, 48, 49, 51, 48, 51, 47, 108, 97, 119, 115, 46, 70, 110, 73, 110, 116, 101, 114, 108, 97, 99, 101].map Char.ofNat, [108, 111, 111, 112, 46, 101, 120, 97, 109, 112, 108, 101, 47, 103, 48, 49, 51, 48, 51, 47, 108, 97, 119, 115, 46, 70, 110, 69, 120, 97, 99, 116, 80, 114, 105, 109, 105, 116, 105, 118, 101, 80, 97, 114, 116].map Char.ofNat, [108, 111, 111, 112, 46, 101, 120, 97, 109, 112, 108, 101, 47, 103, 48, 49, 51, 48, 51, 47, 108, 97, 119, 115, 46, 70, 110, 67, 111, 109, 112, 108, 101, 109, 101, 110, 116, 115].map Char.ofNat] = ([], [[99, 117, 116].map Char.ofNat, [97, 116].map Char.ofNat, [108, 111, 111, 112, 46, 101, 120, 97, 109, 112, 108, 101, 47, 103, 48, 49, 51, 48, 51, 47, 108, 97, 119, 115, 46, 70, 110, 69, 120, 97, 99, 116, 65, 110, 116, 105, 112, 111, 100, 101, 79, 102].map Char.ofNat, [108, 111, 111, 112, 46, 101, 120, 97, 109, 112, 108, 101, 47, 103, 48, 49, 51, 48, 51, 47, 108, 97, 119, 115, 46, 70, 110, 73, 110, 116, 101, 114, 108, 97, 99, 101].map Char.ofNat, [108, 111, 111, 112, 46, 101, 120, 97, 109, 112, 108, 101, 47, 103, 48, 49, 51, 48, 51, 47, 108, 97, 119, 115, 46, 70, 110, 69, 120, 97, 99, 116, 80, 114, 105, 109, 105, 116, 105, 118, 101, 80, 97, 114, 116].map Char.ofNat, [108, 111, 111, 112, 46, 101, 120, 97, 109, 112, 108, 101, 47, 103, 48, 49, 51, 48, 51, 47, 108, 97, 119, 115, 46, 70, 110, 67, 111, 109, 112, 108, 101, 109, 101, 110, 116, 115].map Char.ofNat]) := by kernel_rfl
theorem later : Tryz.prog.laysLater = false := by kernel_rfl
theorem reflects : Tryz.prog.bearsReflect = false := by kernel_rfl
theorem doors : Tryz.prog.doorRows = [] := by kernel_rfl
theorem make_ok : (Tryz.prog.make == some .cut) = true := by
  rw [Program.make]
  rw [words, behind]
  kernel_rfl
theorem mayEnter_ok : Tryz.prog.mayEnter = true := by
  rw [Program.mayEnter]
  rw [words, behind]
  simp only [strip, later, reflects]
  rw [Program.doorFits, doors]
  kernel_rfl
theorem liftsFinal_ok : (false == Tryz.prog.liftsFinal) = true := by
  rw [Program.liftsFinal, Program.headLifts]
  rw [words, behind]
  kernel_rfl
end Go.Proofs.YtcnekpdoldljgaaGreat.Head
end
section
namespace Go.Proofs.YtcnekpdoldljgaaGreat.fnInterlace
open Go.ChangeShapes Go.WideShapes Go.ChangeAt Go.RowKit
open Go.ChangeMaps (open_string shut_string)
set_option linter.unusedVariables false
theorem own : ownKnob Tryz.prog.godebug = none := by kernel_rfl
theorem laidOut : laidOutB Tryz.prog = true := by kernel_rfl
def IsRow (k : IntKind) (w : World) (a : Option Addr) (len cap : Nat) (zs : List Int) : Prop :=
  (a = none ∧ len = 0 ∧ cap = 0 ∧ zs = []) ∨
  ∃ x, a = some x ∧ len ≤ cap ∧ cap ≤ maxLen ∧ zs.length = cap ∧ (∀ i, i < zs.length → w.cell? (x.add i) = some (.int k (zs.getD i 0))) ∧ ∀ n ∈ zs, (Lit.int k n).wf = true
set_option maxRecDepth 100000 in
theorem lifted (os : Os) (started : os.Started) (H : Type) (enc : TypeId × Value → H) :
    ReturnsInHanded {} Tryz.checked os 4 .any (Rows.fnInterlaceSpec.pre6 enc Tryz.prog Tryz.f4 Rows.fnInterlaceRow.domain false) (Rows.fnInterlaceSpec.post enc Tryz.prog Tryz.f4 false true false false) := by
  refine returnsInHanded_of_change_sized (C := Tryz.checked) own started (by kernel_rfl) Tryz.func4
    (ChangeSpec.witness6 (enc := enc) (C := Tryz.checked) false ⟨#[], #[.slice none 0 0], []⟩ 8 (by kernel_rfl) (by kernel_rfl) (by kernel_rfl) (by kernel_rfl)) ?_
  intro W base args ds gs before hval0 hW hcnd hsz0 _
  have hsz : (DataW.weightsEach Tryz.prog (Tryz.f4.params.toList ++ Rows.fnInterlaceSpec.plain.varTypes Tryz.prog) (ds ++ gs)).all (· ≤ reachBytes) = true := hsz0
  have hval : ∀ (j : Nat) t v, Tryz.f4.params[j]? = some t → args[j]? = some v → Value.okWide Tryz.prog W .any base t v := hval0
  have hW' := hW
  obtain ⟨p, q, hA0, hV, rfl, hfz, hnd⟩ := hW
  have hA : DataW.TrodAll enc Tryz.prog W 0 (fun _ => true) true Tryz.f4.params.toList args.toList ds p := hA0
  rw [Tryz.params4] at hA hval hsz
  obtain ⟨v0, vs0, d0, ds0, p0, q0, hargs, rfl, rfl, h0, r0⟩ := trodAll_cons hA
  obtain ⟨rfl, rfl, rfl⟩ := trodAll_nil r0
  obtain rfl : args = #[v0] := by cases args; simp_all
  obtain ⟨rfl, rfl⟩ := trodVars_none hV
  obtain ⟨a0, len0, cap0, rfl⟩ := okWide_slice Tryz.underlying35 (hval 0 35 v0 rfl rfl)
  have k0 := h0
  have lt0 : ∀ x ∈ p0, x.block < W.heap.size := by obtain ⟨m, hm⟩ := k0; exact DataW.trod_lt m _ _ _ hm
  obtain ⟨z0, w0⟩ : ∃ zs, IsRow .u8 W a0 len0 cap0 zs := by
    obtain ⟨fuel, hf⟩ := h0
    rcases open_ints Tryz.underlying35 Tryz.underlying5 (by kernel_rfl) hf with ⟨hcs, _⟩ | ⟨x, l, c, zs, hcs, _, hl, hm, hz, _, hcell, hwz⟩
    · simp [Value.cells] at hcs
      obtain ⟨rfl, rfl, rfl⟩ := hcs
      exact ⟨[], .inl ⟨rfl, rfl, rfl, rfl⟩⟩
    · simp [Value.cells] at hcs
      obtain ⟨rfl, rfl, rfl⟩ := hcs
      exact ⟨zs, .inr ⟨_, rfl, hl, hm, by simpa using hz, hcell, hwz⟩⟩
  have y0 : len0 * 1 ≤ 140737488351232 := Go.Proofs.YtcnekpdoldljgaaGreatW.PrintWords.sized_ints hsz (j := 0) (t := 35) rfl rfl Tryz.underlying35 Tryz.underlying5 (by kernel_rfl) (by kernel_rfl) h0
  clear hA0 hval0 hsz0 hsz
  refine (F.laws_FnInterlace.walk Pure.FnInterlace a0 len0 cap0 z0 W w0 y0).mono fun e W' ⟨he, bel⟩ => ?_
  subst he
  exact ⟨_, rfl, _, _, _, [], _, [], hW', trodAll_mk1 (shut_bool Tryz.underlying4 _), (trodAll_cons_mk (Below.trod laidOut (by kernel_rfl) (of_decide_eq_true (by kernel_rfl)) k0 bel lt0) trodAll_mk0), rfl, bel.frame _, fun h => by cases h⟩
set_option maxHeartbeats 8000000 in
theorem closed : joinedFacts Tryz.pinned.checked.prog 4 Tryz.f4 Rows.fnInterlaceSpec Rows.fnInterlaceRow = true := by
  unfold joinedFacts
  refine Head.and_ok (Head.and_ok (Head.and_ok (Head.and_ok (Head.and_ok (Head.and_ok (Head.and_ok (Head.and_ok (Head.and_ok (Head.and_ok (Head.and_ok (Head.and_ok (Head.and_ok (Head.and_ok (Head.and_ok (Head.and_ok (Head.and_ok (Head.and_ok (Head.and_ok (Head.and_ok (Head.and_ok (Head.and_ok (Head.and_ok (Head.and_ok (Head.and_ok (Head.and_ok (Head.and_ok (Head.and_ok (Head.and_ok (Head.and_ok (Head.and_ok ?_ ?_) ?_) ?_) ?_) ?_) ?_) ?_) ?_) ?_) ?_) ?_) ?_) ?_) ?_) ?_) ?_) ?_) ?_) ?_) ?_) ?_) ?_) ?_) ?_) ?_) ?_) ?_) ?_) ?_) ?_) ?_
  · as_aux_lemma => kernel_rfl
  · as_aux_lemma => kernel_rfl
  · as_aux_lemma => kernel_rfl
  · as_aux_lemma => kernel_rfl
  · as_aux_lemma => kernel_rfl
  · as_aux_lemma => kernel_rfl
  · as_aux_lemma => kernel_rfl
  · as_aux_lemma => kernel_rfl
  · as_aux_lemma => kernel_rfl
  · as_aux_lemma => kernel_rfl
  · as_aux_lemma => kernel_rfl
  · as_aux_lemma => kernel_rfl
  · as_aux_lemma => kernel_rfl
  · as_aux_lemma => kernel_rfl
  · as_aux_lemma => kernel_rfl
  · as_aux_lemma => kernel_rfl
  · as_aux_lemma => kernel_rfl
  · as_aux_lemma => kernel_rfl
  · as_aux_lemma => kernel_rfl
  · as_aux_lemma => kernel_rfl
  · as_aux_lemma => kernel_rfl
  · as_aux_lemma => kernel_rfl
  · as_aux_lemma => kernel_rfl
  · as_aux_lemma => kernel_rfl
  · as_aux_lemma => kernel_rfl
  · exact Head.mayEnter_ok
  · exact Head.liftsFinal_ok
  · exact Head.make_ok
  · as_aux_lemma => kernel_rfl
  · as_aux_lemma => kernel_rfl
  · as_aux_lemma => kernel_rfl
  · as_aux_lemma => kernel_rfl
set_option maxHeartbeats 8000000 in
theorem over : Rows.fnInterlaceRow.holds Tryz.pinned (OpenSpec.ofChange Rows.fnInterlaceSpec) :=
  OpenClaim.holds_of_wide 4 Tryz.f4 rfl rfl rfl rfl rfl rfl rfl ⟨rfl, rfl, rfl, rfl, rfl⟩ rfl rfl rfl rfl rfl (by as_aux_lemma => kernel_rfl) Tryz.func4 closed
    (of_decide_eq_true (by as_aux_lemma => kernel_rfl)) (by unfold Func.isWrapper; first | (rw [if_pos (by decide +kernel)]; kernel_rfl) | (rw [if_neg (by decide +kernel)]; exact ⟨rfl, rfl⟩))
    (fun os started H enc _ => lifted os started H enc)
theorem proved : Rows.FnInterlaceSaid := over
#print axioms proved
end Go.Proofs.YtcnekpdoldljgaaGreat.fnInterlace
namespace Go.Proofs.YtcnekpdoldljgaaGreat
theorem fnInterlace_holds : Rows.FnInterlaceSaid := fnInterlace.proved
end Go.Proofs.YtcnekpdoldljgaaGreat
end
