/- What impl_twice answers, and that the Go text comes to it: for every world in which the arguments read as told. -/
import Derived.Test.YtfijnlbkflmkbaaFx0
import Derived.Maps.OwnOps
import Derived.Maps.OwnSet
import Derived.Maps.AppendAt
import Derived.Maps.RangeWalk
namespace Go.Proofs.Ytfijnlbkflmkbaa.F
open Go.RowKit Go.Proofs.YtfijnlbkflmkbaaW.PrintWords Go.Proofs.YtfijnlbkflmkbaaW.PrintLast Go.Proofs.YtfijnlbkflmkbaaW.PrintMore
attribute [local go_sem] max2_int min2_int max_two min_two max_three min_three max_four min_four   -- for this text's walks alone
set_option linter.unusedVariables false
set_option linter.unusedSimpArgs false

/-! ### impl_twice: function 139 (by hand) -/
open Go.Maps

def okL (l : List Int) : Bool := decide (l.length * 8 ≤ 140737488351232) && l.all (fun x => (Lit.int .i64 x).wf)

def impl_twice.f (l0 : List Int) : Option Bool := if okL l0 = true then some (l0.all fun x => l0.count x == 2) else none

theorem okL_len {l : List Int} (h : okL l = true) : l.length * 8 ≤ 140737488351232 := by
  unfold okL at h
  simp only [Bool.and_eq_true, decide_eq_true_eq] at h
  exact h.1
theorem okL_wf {l : List Int} (h : okL l = true) (x : Int) (hx : x ∈ l) : (Lit.int .i64 x).wf = true := by
  unfold okL at h
  simp only [Bool.and_eq_true, List.all_eq_true] at h
  exact h.2 x hx
theorem rd_mem {l : List Int} {i : Int} (h0 : 0 ≤ i) (h1 : i < l.length) : rd l i ∈ l := by
  unfold rd
  rw [List.getD_eq_getElem?_getD, List.getElem?_eq_getElem (by omega)]
  exact List.getElem_mem _
theorem take_rd {l : List Int} {i : Int} (h0 : 0 ≤ i) (h1 : i < l.length) : l.take (i + 1).toNat = l.take i.toNat ++ [rd l i] := by
  rw [show (i + 1).toNat = i.toNat + 1 from by omega, List.take_succ_eq_append_getElem (by omega)]
  unfold rd
  rw [List.getD_eq_getElem?_getD, List.getElem?_eq_getElem (by omega)]
  rfl

/-- The map of counts, behind the first k numbers. -/
def Cnt (zs : List Int) (D : DataW Unit) : Prop := ∀ y : Int, (Maps.has D (.int .i64 y) = zs.contains y) ∧ D.atKey (.int .i64 y) (.lit (.int .i64 0)) = .lit (.int .i64 (zs.count y))
theorem Cnt.nil : Cnt [] (.map []) := fun _ => ⟨rfl, rfl⟩
theorem Cnt.snoc {zs : List Int} {D : DataW Unit} (h : Cnt zs D) (hD : Maps.IsMap D) (x c : Int) (hc : D.atKey (.int .i64 x) (.lit (.int .i64 0)) = .lit (.int .i64 c)) (hs : zs.length < 4611686018427387904) :
    Cnt (zs ++ [x]) (D.put (.int .i64 x) (.lit (.int .i64 (wrap64 (c + 1))))) := by
  intro y
  have hx := (h x).2
  rw [hc] at hx
  have hcc : c = (zs.count x : Int) := by injection hx with hx; injection hx
  have hle := List.count_le_length (a := x) (l := zs)
  by_cases e : y = x
  · subst e
    refine ⟨?_, ?_⟩
    · rw [Maps.has_put_same hD (show WideAt.IsKeyLit (.int .i64 y) from trivial)]; simp
    · rw [Maps.atKey_put_same hD (show WideAt.IsKeyLit (.int .i64 y) from trivial), hcc]
      have : wrap64 ((zs.count y : Int) + 1) = ((zs ++ [y]).count y : Int) := by
        rw [List.count_append]; simp; unfold wrap64; omega
      rw [this]
  · have hne : (Lit.int .i64 y) ≠ .int .i64 x := fun h => e (by injection h)
    refine ⟨?_, ?_⟩
    · rw [Maps.has_put_other hne, (h y).1]; simp [e]
    · rw [Maps.atKey_put_other hne, (h y).2]
      have : (zs ++ [x]).count y = zs.count y := by rw [List.count_append]; simp [Ne.symm e]
      rw [this]

set_option maxHeartbeats 8000000 in
set_option maxRecDepth 100000 in
theorem impl_twice.calls (A0 : Option Addr) (c0 : Nat) (l0 : List Int) (r : Bool) (w : World) (hr0 : Kd.C (Kd.int .i64) w A0 l0.length l0) (hc0 : l0.length ≤ c0) (h : impl_twice.f l0 = some r) :
    Calls Try.prog 139 #[.slice A0 l0.length c0] w fun e w' => e = .returned (.bool r) ∧ Below w.heap.size w w' := by
  have HR0 := Aside0.mk hr0
  have HC0 := Aside0.mk hc0
  clear hr0 hc0
  have HF : okL l0 = true := by
    unfold impl_twice.f at h
    by_cases hk : okL l0 = true
    · exact hk
    · rw [if_neg hk] at h; exact absurd h (by simp)
  have HR : r = l0.all fun x => l0.count x == 2 := by
    unfold impl_twice.f at h
    rw [if_pos HF] at h
    exact (Option.some.inj h).symm
  have HL := okL_len HF
  have HW := Aside0.mk (okL_wf HF)
  have HRR := Aside0.mk HR
  clear HF HR h
  have hmm := @run_makeMap Try.prog
  have law := int_keyed (P := Try.prog) Try.underlying2
  have zer : ∀ W : World, (zeroValue 3).run Try.prog W = .ok (.int .i64 0) W := fun W => by kernel_rfl
  have LAW := Aside0.mk law
  have ZER := Aside0.mk zer
  clear law zer
  go_enter Try.func139, Try.ntmps139
  go_wp2
  go_loopw [11] (fun i wr => ∃ (x : Int) (D : DataW Unit), i = .int .i64 x ∧ Aside0 (0 ≤ x ∧ x ≤ l0.length) ∧ Aside0 (wr.ownsMap Try.prog 2 (plainElem Try.prog 3) w.heap.size x.toNat D) ∧ Aside0 (Cnt (l0.take x.toNat) D) ∧ Aside0 (Below w.heap.size w wr))
    (fun i _ => l0.length - (intOf i).toNat)
  case atStart => exact ⟨0, .map [], rfl, ⟨by omega, by omega⟩, ⟨World.ownsMap_made _ _ _ _⟩, ⟨Cnt.nil⟩, ⟨(Below.refl _ _).alloc (Nat.le_refl _) _⟩⟩
  case round =>
    obtain ⟨x, D, rfl, HX, HO, HD, HB⟩ := hrel
    by_cases hlt : x < (l0.length : Int)
    · have p0 : 0 ≤ x := HX.out.1
      obtain ⟨ad, ead, hcell⟩ := Kd.at_int HR0.out x p0 hlt
      cases ead
      replace hcell := (HB.out.cell (World.block_lt_of_cell? w _ hcell)).trans hcell
      have hkey : keyOf Try.prog 2 (.int .i64 (rd l0 x)) = some (.int .i64 (rd l0 x)) := keyOf_int_mk Try.underlying2 (HW.out _ (rd_mem p0 hlt))
      have HX1 := Aside0.mk hlt
      have HX0 := Aside0.mk p0
      have q0 := eq_true p0
      have q1 := eq_true hlt
      have w1 : wrap64 (x + 1) = x + 1 := by unfold wrap64; omega
      have W1 := Aside0.mk w1
      clear w1 p0 hlt
      have hkx : x.toNat < maxLen := by have := HX1.out; have := HX0.out; unfold maxLen; omega
      go_wp2_with (first
        | (at_lookup; refine wpList_lookup_own_int _ rfl _ _ 110 rfl 2 3 .i64 LAW.out Try.underlying110 Try.underlying3 (ZER.out _) w.heap.size x.toNat _ rfl HO.out _ _ rfl hkey ?_; intro c hat hwc; have HAT := Aside0.mk hat; clear hat hwc)
        | (at_mapUpdate; refine wpList_mapUpdate_own _ rfl _ _ _ 110 rfl 2 3 LAW.out Try.underlying110 _ w.heap.size x.toNat _ rfl HO.out hkx _ _ _ rfl rfl hkey _ [] (plainElem_int Try.underlying3 (wrap64_wf _)) ?_; intro w1 hown1 hgrow1))
      go_roundw
      case rel =>
        refine ⟨x + 1, D.put (.int .i64 (rd l0 x)) (.lit (.int .i64 (wrap64 (c + 1)))), by rw [W1.out], ⟨by have := HX0.out; omega, by have := HX1.out; omega⟩, ⟨?_⟩, ⟨?_⟩, ⟨?_⟩⟩
        · rw [show (x + 1).toNat = x.toNat + 1 from by have := HX0.out; omega]; exact hown1
        · rw [take_rd HX0.out HX1.out]
          have hlen : (l0.take x.toNat).length ≤ l0.length := List.length_take_le' _ _
          exact HD.out.snoc (by obtain ⟨es, cl, _, _, _, hD⟩ := HO.out; exact ⟨_, hD⟩) _ _ HAT.out (by omega)
        · exact HB.out.grown hgrow1 HB.out.size (fun j hj => by cases hj; exact Nat.le_refl _)
      case measure => rw [W1.out]; have := HX0.out; have := HX1.out; simp [intOf]; omega
    · have q1 := eq_false hlt
      have hx : x.toNat = l0.length := by have := HX.out; omega
      have HXE := Aside0.mk hx
      clear hx hlt
      have HO2 : Aside0 (wr.ownsMap Try.prog 2 (plainElem Try.prog 3) w.heap.size l0.length D) := ⟨by have h := HO.out; rw [HXE.out] at h; exact h⟩
      have HD2 : Aside0 (Cnt l0 D) := ⟨by have h := HD.out; rw [HXE.out, List.take_length] at h; exact h⟩
      clear HO HD HX
      obtain ⟨wo, rfl⟩ : ∃ wo : World, wo = wr := ⟨_, rfl⟩
      go_wp2_with (first
        | (at_range; refine wpList_range_own _ rfl _ 110 rfl 2 3 LAW.out Try.underlying110 _ w.heap.size l0.length _ rfl HO2.out ?_; intro w0 hrg0 hg0 hs0; have HRG := Aside0.mk hrg0; have HB0 := Aside0.mk (HB.out.grown hg0 HB.out.size (fun j hj => by cases hj)); clear hrg0 hg0 hs0))
      go_frame
      go_loopw [7] (fun _ wq => ∃ (left : Lit → Bool) (cnt : Nat), Aside0 (wq.ranges Try.prog 2 (plainElem Try.prog 3) w.heap.size wo.heap.size l0.length D left cnt) ∧ Aside0 (∀ y : Int, l0.contains y = true → left (.int .i64 y) = false → l0.count y = 2) ∧ Aside0 (Below w.heap.size w wq))
        (fun _ wq => wq.rangeLeft w.heap.size wo.heap.size)
      case atStart =>
        refine ⟨_, _, HRG, ⟨fun y hy hl => ?_⟩, HB0⟩
        rw [(HD2.out y).1, hy] at hl
        exact absurd hl (by simp)
      case round =>
        clear HRG HB0
        obtain ⟨left, cnt, HRG, HLE, HB1⟩ := hrel
        go_wp2_with (first
          | (at_next; refine wpList_next_ranges_ii _ rfl _ rfl 2 3 .i64 .i64 LAW.out Try.underlying2 Try.underlying3 w.heap.size wo.heap.size l0.length _ _ _ rfl HRG.out ?_ ?_))
        · intro _ hl0
          have hr : r = true := by
            rw [HRR.out, List.all_eq_true]
            intro y hy
            have := HLE.out y (List.contains_iff_mem.2 hy) (hl0 _)
            rw [this]; rfl
          have HR1 := Aside0.mk hr
          clear hr hl0
          go_wp2
          go_ret
          exact ⟨by rw [HR1.out]; rfl, HB1.out⟩
        · intro x2 c w1 cnt1 hwx hwc hlx hat hrg1 hlt hg1 hs1 hen
          have hmem : l0.contains x2 = true := by
            rw [← (HD2.out x2).1]
            cases hh : Maps.has D (.int .i64 x2) with
            | true => rfl
            | false =>
              have h0 := hat (.lit (.bool true))
              rw [Maps.atKey_of_not_has hh] at h0
              exact absurd h0 (by simp)
          have hc : c = (l0.count x2 : Int) := by
            have h0 := hat (.lit (.int .i64 0))
            rw [(HD2.out x2).2] at h0
            injection h0 with h0
            injection h0 with _ h0
            exact h0.symm
          have HB2 := Aside0.mk (HB1.out.grown hg1 HB1.out.size (fun j hj => by cases hj; exact (by have := HB.out.size; omega)))
          have HM := Aside0.mk hmem
          have HC := Aside0.mk hc
          have HLT := Aside0.mk hlt
          have HRG1 := Aside0.mk hrg1
          clear hmem hc hlt hrg1 hwx hwc hlx hat hg1 hs1
          by_cases e2 : c = 2
          · have e2b : (c != 2) = false := by simp [e2]
            have E2 := Aside0.mk e2
            clear e2
            go_wp2
            go_roundw
            case rel =>
              refine ⟨_, _, HRG1, ⟨fun y hy hl => ?_⟩, HB2⟩
              by_cases ey : y = x2
              · subst ey
                have := HC.out
                have := E2.out
                omega
              · refine HLE.out y hy ?_
                cases hll : left (.int .i64 y) with
                | false => rfl
                | true =>
                  rw [hll] at hl
                  have hk : (Lit.int .i64 y).sameKey (.int .i64 x2) = true := by
                    cases hz : (Lit.int .i64 y).sameKey (.int .i64 x2) with
                    | true => rfl
                    | false => rw [hz] at hl; exact absurd hl (by simp)
                  exact absurd hk (by simp [Lit.sameKey, ey])
            case measure => rw [HRG1.out.left_eq, HRG.out.left_eq]; exact HLT.out
          · have e2b : (c != 2) = true := by simp [e2]
            have hr : r = false := by
              rw [HRR.out, List.all_eq_false]
              refine ⟨x2, List.contains_iff_mem.1 HM.out, ?_⟩
              have := HC.out
              simp
              omega
            have HR1 := Aside0.mk hr
            clear hr e2
            go_wp2
            go_ret
            exact ⟨by rw [HR1.out]; rfl, HB2.out⟩

end Go.Proofs.Ytfijnlbkflmkbaa.F
