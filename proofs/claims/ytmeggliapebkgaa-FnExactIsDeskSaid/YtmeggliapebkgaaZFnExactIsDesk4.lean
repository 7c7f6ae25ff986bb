/- Words, walks and plain laws that the row of the law FnExactIsDesk uses. -/
import Derived.Test.YtmeggliapebkgaaZFnExactIsDesk3
import Derived.Deep.RegionLawGrows
import Derived.ArgAppend
import Derived.Maps.OwnRows
import Derived.Maps.OwnSet
import Derived.Maps.RangeWalk
section
namespace Go.Proofs.Ytmeggliapebkgaa.F
abbrev bqFx57_0 : Array Bool := #[false, false, false, false, false, false, false, false, false, false, false, false, false, false, false, false, false, false, false, false, false, false, false, false, false, false, false, false, false, false]
abbrev bqFx57_1 : Array Bool := #[true, false, false, false, false, false, false, false, false, false, false, false, false, false, false, false, false, false, false, false, false, false, false, false, false, false, false, false, false, false]
abbrev bqFx57_2 : Array Bool := #[true, true, false, false, false, false, false, false, false, false, false, false, false, false, false, false, false, false, false, false, false, false, false, false, false, false, false, false, false, false]
abbrev bqFx57_3 : Array Bool := #[true, true, true, false, false, false, false, false, false, false, false, false, false, false, false, false, false, false, false, false, false, false, false, false, false, false, false, false, false, false]
abbrev bqFx57_4 : Array Bool := #[true, true, true, true, false, false, false, false, false, false, false, false, false, false, false, false, false, false, false, false, false, false, false, false, false, false, false, false, false, false]
abbrev bqFx57_5 : Array Bool := #[true, true, true, true, true, false, false, false, false, false, false, false, false, false, false, false, false, false, false, false, false, false, false, false, false, false, false, false, false, false]
abbrev bqFx57_6 : Array Bool := #[true, true, true, true, true, true, false, false, false, false, false, false, false, false, false, false, false, false, false, false, false, false, false, false, false, false, false, false, false, false]
abbrev bqFx57_7 : Array Bool := #[true, true, true, true, true, true, true, false, false, false, false, false, false, false, false, false, false, false, false, false, false, false, false, false, false, false, false, false, false, false]
abbrev bqFx57_8 : Array Bool := #[true, true, true, true, true, true, true, true, false, false, false, false, false, false, false, false, false, false, false, false, false, false, false, false, false, false, false, false, false, false]
abbrev bqFx57_9 : Array Bool := #[true, true, true, true, true, true, true, true, true, false, false, false, false, false, false, false, false, false, false, false, false, false, false, false, false, false, false, false, false, false]
abbrev bqFx57_10 : Array Bool := #[true, true, true, true, true, true, true, true, true, true, false, false, false, false, false, false, false, false, false, false, false, false, false, false, false, false, false, false, false, false]
abbrev bqFx57_11 : Array Bool := #[true, true, true, true, true, true, true, true, true, true, true, false, false, false, false, false, false, false, false, false, false, false, false, false, false, false, false, false, false, false]
abbrev bqFx57_12 : Array Bool := #[true, true, true, true, true, true, true, true, true, true, true, true, false, false, false, false, false, false, false, false, false, false, false, false, false, false, false, false, false, false]
abbrev bqFx57_13 : Array Bool := #[true, true, true, true, true, true, true, true, true, true, true, true, true, false, false, false, false, false, false, false, false, false, false, false, false, false, false, false, false, false]
abbrev bqFx57_14 : Array Bool := #[true, true, true, true, true, true, true, true, true, true, true, true, true, true, false, false, false, false, false, false, false, false, false, false, false, false, false, false, false, false]
abbrev bqFx57_15 : Array Bool := #[true, true, true, true, true, true, true, true, true, true, true, true, true, true, true, false, false, false, false, false, false, false, false, false, false, false, false, false, false, false]
abbrev bqFx57_16 : Array Bool := #[true, true, true, true, true, true, true, true, true, true, true, true, true, true, true, true, false, false, false, false, false, false, false, false, false, false, false, false, false, false]
abbrev bqFx57_17 : Array Bool := #[true, true, true, true, true, true, true, true, true, true, true, true, true, true, true, true, true, false, false, false, false, false, false, false, false, false, false, false, false, false]
abbrev bqFx57_18 : Array Bool := #[true, true, true, true, true, true, true, true, true, true, true, true, true, true, true, true, true, true, false, false, false, false, false, false, false, false, false, false, false, false]
abbrev bqFx57_19 : Array Bool := #[true, true, true, true, true, true, true, true, true, true, true, true, true, true, true, true, true, true, true, false, false, false, false, false, false, false, false, false, false, false]
abbrev bqFx57_20 : Array Bool := #[true, true, true, true, true, true, true, true, true, true, true, true, true, true, true, true, true, true, true, true, false, false, false, false, false, false, false, false, false, false]
abbrev bqFx57_21 : Array Bool := #[true, true, true, true, true, true, true, true, true, true, true, true, true, true, true, true, true, true, true, true, true, false, false, false, false, false, false, false, false, false]
abbrev bqFx57_22 : Array Bool := #[true, true, true, true, true, true, true, true, true, true, true, true, true, true, true, true, true, true, true, true, true, true, false, false, false, false, false, false, false, false]
abbrev bqFx57_23 : Array Bool := #[true, true, true, true, true, true, true, true, true, true, true, true, true, true, true, true, true, true, true, true, true, true, true, false, false, false, false, false, false, false]
abbrev bqFx57_24 : Array Bool := #[true, true, true, true, true, true, true, true, true, true, true, true, true, true, true, true, true, true, true, true, true, true, true, true, false, false, false, false, false, false]
abbrev bqFx57_25 : Array Bool := #[true, true, true, true, true, true, true, true, true, true, true, true, true, true, true, true, true, true, true, true, true, true, true, true, true, false, false, false, false, false]
abbrev bqFx57_26 : Array Bool := #[true, true, true, true, true, true, true, true, true, true, true, true, true, true, true, true, true, true, true, true, true, true, true, true, true, true, false, false, false, false]
abbrev bqFx57_27 : Array Bool := #[true, true, true, true, true, true, true, true, true, true, true, true, true, true, true, true, true, true, true, true, true, true, true, true, true, true, true, false, false, false]
abbrev bqFx57_28 : Array Bool := #[true, true, true, true, true, true, true, true, true, true, true, true, true, true, true, true, true, true, true, true, true, true, true, true, true, true, true, true, false, false]
abbrev bqFx57_29 : Array Bool := #[true, true, true, true, true, true, true, true, true, true, true, true, true, true, true, true, true, true, true, true, true, true, true, true, true, true, true, true, true, false]
abbrev bqFx57_30 : Array Bool := #[true, true, true, true, true, true, true, true, true, true, true, true, true, true, true, true, true, true, true, true, true, true, true, true, true, true, true, true, true, true]
abbrev bqFx57_31 : Array Bool := #[true, true, true, true, true, true, false, true, false, false, false, false, false, false, false, false, false, false, false, false, false, false, false, false, false, false, false, false, false, false]
abbrev bqFx57_32 : Array Bool := #[true, true, true, true, true, true, true, true, true, true, true, true, true, true, true, true, true, true, false, true, false, false, false, false, false, false, false, false, false, false]
abbrev bqFx57_33 : Array Bool := #[true, true, true, true, true, true, true, true, true, true, true, true, true, true, true, true, true, true, false, true, true, false, false, false, false, false, false, false, false, false]
abbrev bqFx57_34 : Array Bool := #[true, true, true, true, true, true, true, true, true, true, true, true, true, true, true, true, true, true, false, true, true, false, false, false, true, false, false, false, false, false]
abbrev bqFx57_35 : Array Bool := #[true, true, true, true, true, true, true, true, true, true, true, true, true, true, true, true, true, true, true, true, true, false, false, false, true, false, false, false, false, false]
abbrev bqFx57_36 : Array Bool := #[true, true, true, true, true, true, true, true, true, true, true, true, true, true, true, true, true, true, true, true, true, true, false, false, true, false, false, false, false, false]
abbrev bqFx57_37 : Array Bool := #[true, true, true, true, true, true, true, true, true, true, true, true, true, true, true, true, true, true, true, true, true, true, true, false, true, false, false, false, false, false]
open Go.RowKit Go.Proofs.YtmeggliapebkgaaW.PrintWords Go.Proofs.YtmeggliapebkgaaW.PrintLast Go.Proofs.YtmeggliapebkgaaW.PrintMore
attribute [local go_sem] max2_int min2_int max_two min_two max_three min_three max_four min_four   
set_option linter.unusedVariables false
set_option linter.unusedSimpArgs false
mutual
def spec_l03Is.j0 : Nat → Bool → Int → List (S115) → Option (Bool)
 | 0, _, _, _ => none
 | k + 1, x14, x571002000, x571002001 => if x14 = true then (some false) else (spec_l03Is.l0 k 0 x571002000 x571002001)
def spec_l03Is.l0 : Nat → Int → Int → List (S115) → Option (Bool)
 | 0, _, _, _ => none
 | k + 1, x3, x571002000, x571002001 => if x3 < (x571002001.length : Int) then (if 0 ≤ x3 then ((spec_l01Is.f k ((rd_T115 x571002001 x3).f0)).bind fun t571005 => (if t571005 = true then ((spec_l01In.f ((rd_T115 x571002001 x3).f1) 1 (wrap64 (x571002000 - 1))).bind fun t571006 => (if t571006 = true then (if x3 > 0 then (if 0 ≤ (wrap64 (x3 - 1)) then (if (wrap64 (x3 - 1)) < (x571002001.length : Int) then ((spec_l01Before.f k ((rd_T115 x571002001 (wrap64 (x3 - 1))).f0) ((rd_T115 x571002001 x3).f0)).bind fun t571008 => (if t571008 = true then (spec_l03Is.l0 k (wrap64 (x3 + 1)) x571002000 x571002001) else (some false))) else (none)) else (none)) else (spec_l03Is.l0 k (wrap64 (x3 + 1)) x571002000 x571002001)) else (some false))) else (some false))) else (none)) else (some true)
end
def spec_l03Is.f (k : Nat) (a0_0 : Int) (l0_1 : List (S115)) : Option (Bool) := (spec_l03Prime.f a0_0).bind fun t571002 => (if t571002 = true then (spec_l03Is.j0 k (decide ((l0_1.length : Int) > 200)) a0_0 l0_1) else (spec_l03Is.j0 k true a0_0 l0_1))
theorem spec_l03Is.mono_l : ∀ k, (∀ y0 y1 y2, LeO (spec_l03Is.j0 k y0 y1 y2) (spec_l03Is.j0 (k + 1) y0 y1 y2)) ∧ (∀ y0 y1 y2, LeO (spec_l03Is.l0 k y0 y1 y2) (spec_l03Is.l0 (k + 1) y0 y1 y2))
 | 0 => ⟨fun _ _ _ r h => by simp [spec_l03Is.j0] at h, fun _ _ _ r h => by simp [spec_l03Is.l0] at h⟩
 | k + 1 => by
  obtain ⟨ih0, ih1⟩ := spec_l03Is.mono_l k
  refine ⟨?_, ?_⟩
  ·intro y0 y1 y2
   unfold spec_l03Is.j0
   repeat' first
   | (with_reducible exact ih0 _ _ _)
   | (with_reducible exact ih1 _ _ _)
   | (with_reducible exact spec_l01Before.mono _ _ _)
   | (with_reducible exact spec_l01Is.mono _ _)
   | (with_reducible exact LeO.refl _)
   | (with_reducible exact LeO.none _)
   | (with_reducible refine LeO.ite ?_ ?_)
   | (with_reducible refine LeO.bind ?_ (fun _ => ?_))
   | exact ih0 _ _ _
   | exact ih1 _ _ _
   | exact spec_l01Before.mono _ _ _
   | exact spec_l01Is.mono _ _
   | exact LeO.none _
   | refine LeO.ite ?_ ?_
   | refine LeO.bind ?_ (fun _ => ?_)
  ·intro y0 y1 y2
   unfold spec_l03Is.l0
   repeat' first
   | (with_reducible exact ih0 _ _ _)
   | (with_reducible exact ih1 _ _ _)
   | (with_reducible exact spec_l01Before.mono _ _ _)
   | (with_reducible exact spec_l01Is.mono _ _)
   | (with_reducible exact LeO.refl _)
   | (with_reducible exact LeO.none _)
   | (with_reducible refine LeO.ite ?_ ?_)
   | (with_reducible refine LeO.bind ?_ (fun _ => ?_))
   | exact ih0 _ _ _
   | exact ih1 _ _ _
   | exact spec_l01Before.mono _ _ _
   | exact spec_l01Is.mono _ _
   | exact LeO.none _
   | refine LeO.ite ?_ ?_
   | refine LeO.bind ?_ (fun _ => ?_)
theorem spec_l03Is.mono : ∀ a0 a1 k, LeO (spec_l03Is.f k a0 a1) (spec_l03Is.f (k + 1) a0 a1) := by
 intro a0 a1 k
 obtain ⟨ih0, ih1⟩ := spec_l03Is.mono_l k
 unfold spec_l03Is.f
 repeat' first
   | (with_reducible exact ih0 _ _ _)
   | (with_reducible exact ih1 _ _ _)
   | (with_reducible exact spec_l01Before.mono _ _ _)
   | (with_reducible exact spec_l01Is.mono _ _)
   | (with_reducible exact LeO.refl _)
   | (with_reducible exact LeO.none _)
   | (with_reducible refine LeO.ite ?_ ?_)
   | (with_reducible refine LeO.bind ?_ (fun _ => ?_))
   | exact ih0 _ _ _
   | exact ih1 _ _ _
   | exact spec_l01Before.mono _ _ _
   | exact spec_l01Is.mono _ _
   | exact LeO.none _
   | refine LeO.ite ?_ ?_
   | refine LeO.bind ?_ (fun _ => ?_)
def spec_l03Is.T7 : Bool × List (List Nat × List Nat) := (true, [([], []), ([0], [0]), ([1], [1]), ([2], [2]), ([3, 2], [3]), ([4], [4]), ([5, 4], [4, 5]), ([4], [4]), ([7, 4], [4, 7]), ([8, 4], [4, 8]), ([6, 9, 4, 4], [4, 6, 9]), ([10, 4], [4, 10]), ([4, 11], [4, 11]), ([12, 10], [12]), ([13], [13]), ([14, 13], [13, 14]), ([15, 13, 13], [13, 15]), ([16], [16]), ([17, 16], [16, 17]), ([16], [16]), ([19, 16], [16, 19]), ([18, 20, 16], [16, 18, 20]), ([21, 16], [16, 21]), ([22, 16], [16, 22]), ([16], [16]), ([24, 16], [16, 24]), ([23, 25, 16, 16], [16, 23, 25]), ([26, 16], [16, 26]), ([16, 27, 13], [13, 16, 27]), ([13, 28], [13, 28])])
def spec_l03Is.B7 : List Nat := [0, 1, 3, 7, 15, 31, 63, 31, 159, 415, 1023, 2047, 4095, 8191, 16383, 32767, 65535, 131071, 262143, 131071, 655359, 2097151, 4194303, 8388607, 131071, 16908287, 67108863, 134217727, 268435455, 536870911]
theorem spec_l03Is.tab7 : rtab .any (opsOf Try.f57 7) = spec_l03Is.T7 := by kernel_rfl
theorem spec_l03Is.bits7 : waitsOk spec_l03Is.T7.2 spec_l03Is.B7 = true := by kernel_rfl
set_option maxHeartbeats 8000000 in
set_option maxRecDepth 100000 in
theorem spec_l03Is.calls (k : Nat) (a0_0 : Int) (A0_1 : Option Addr) (c0_1 : Nat) (l0_1 : List (S115)) (r : Bool) (w : World) (hr0_1 : Kd.C k115 w A0_1 l0_1.length l0_1) (hc0_1 : l0_1.length ≤ c0_1) (h : spec_l03Is.f k a0_0 l0_1 = some r) :
  Calls Try.prog 57 #[.agg #[.int .i64 a0_0, .slice A0_1 l0_1.length c0_1]] w fun e w' => e = .returned (.bool r) ∧ Below w.heap.size w w' := by
 have hu46 := Try.underlying46
 have hu115 := Try.underlying115
 have HR0_1 := Aside0.mk hr0_1
 have HC0_1 := Aside0.mk hc0_1
 clear hr0_1 hc0_1
 have HB := Aside0.mk (Below.refl w.heap.size w)
 have H : ((spec_l03Prime.f a0_0).bind fun t571002 => (if t571002 = true then (spec_l03Is.j0 k (decide ((l0_1.length : Int) > 200)) a0_0 l0_1) else (spec_l03Is.j0 k true a0_0 l0_1))) = some r := h
 clear h
 have HC2 := Aside0.mk H
 clear H
 go_enter Try.func57, Try.ntmps57
 go_upto_region 1 with (first | ((with_reducible refine gate_dst (N := 1) rfl ?_); (try (refine gate_guard (by rfl) ?_; dsimp only)); refine box_event ?hg (N := 1) ?hd (cs := #[.int .i64 a0_0, .slice A0_1 l0_1.length c0_1]) (t := 46) ?hr ?_; (case hd => rfl); (case hg => rfl); (case hr => first | (go_simp; done) | (go_simp; rfl)); intro gb571001 hg w3 hbox hb; have n0_ := Aside0.mk (below_step (by repeat (first | (with_reducible first | exact HB.out | apply below_alloc | apply pw_below_drewN | apply below_drew1) | exact HB.out)) hb); have n1_ := Aside0.mk (hbox); have n2_ := Aside0.mk ((by rw [hg]; exact (below_size (by repeat (first | (with_reducible first | exact HB.out | apply below_alloc | apply pw_below_drewN | apply below_drew1) | exact HB.out))) : w.heap.size ≤ gb571001)); have n3_ := Aside0.mk ((by rw [hg]; exact (below_size (by repeat (first | (with_reducible first | exact HB.out | apply below_alloc | apply pw_below_drewN | apply below_drew1) | exact HB.out))) : w.heap.size ≤ gb571001)); clear HB; have HB := n0_; have BK571001 := n1_; have GW571001 := n2_; have GE571001 := n3_; clear n0_ n1_ n2_ n3_; clear hb hbox hg))
 (try simp only [Act.put, List.setIfInBounds_toArray, List.set_cons_zero, List.set_cons_succ])
 go_cut [14] (fun v14 wc => ∃ (kq : Nat) (x14_1 : Bool), v14 = .bool x14_1 ∧ Aside0 (spec_l03Is.j0 kq x14_1 a0_0 l0_1 = some r) ∧ Aside0 (kq ≤ k) ∧ Aside0 (wc.heap[gb571001]? = some (.cells #[.int .i64 a0_0, (.slice A0_1 l0_1.length c0_1)] 46 (0, 0))) ∧ Aside0 (Below w.heap.size w wc))
 case first =>
  have H := HC2.out
  clear HC2
  replace H := Option.bind_eq_some_iff.mp H
  obtain ⟨t571002, A40, H⟩ := H
  replace H : (if t571002 = true then (spec_l03Is.j0 k (decide ((l0_1.length : Int) > 200)) a0_0 l0_1) else (spec_l03Is.j0 k true a0_0 l0_1)) = some r := H
  have A4 := Aside0.mk A40
  clear A40
  by_cases c5 : t571002 = true
  ·subst c5
   have H1 : (spec_l03Is.j0 k (decide ((l0_1.length : Int) > 200)) a0_0 l0_1) = some r := by rw [if_pos rfl] at H; exact H
   clear H
   have H := H1
   clear H1
   have H' := Aside0.mk H
   clear H
   have hcz6_0 : w3.cell? ⟨gb571001, 0, none⟩ = some (.int .i64 a0_0) := (blk_cell BK571001.out 0).trans rfl
   have hcz6_1 : w3.cell? ⟨gb571001, 1, none⟩ = some (.slice A0_1 l0_1.length c0_1) := (blk_cell BK571001.out 1).trans rfl
   have hfz6_0 := blk_frozen BK571001.out 0
   have hfz6_1 := blk_frozen BK571001.out 1
   go_wp2_with (first | ((with_reducible refine gate_callee (f := 112) rfl ?_); refine goesL_ (some 7) rfl rfl Try.func112 (by kernel_rfl) rfl #[.int .i64 a0_0] rfl (by (try simp only [List.map_toArray, List.map_cons, List.map_nil]); first | done | rfl | (simp only [List.length_drop, List.length_take]; rfl)) ?_; (with_reducible refine (spec_l03Prime.calls a0_0 true _ A4.out).mono ?_); rintro e w' ⟨rfl, ⟨nd, rfl⟩⟩; refine ⟨_, rfl, ?_⟩))
   go_meet
   case rel => exact ⟨_, (decide ((l0_1.length : Int) > 200)), (by first | rfl | (simp; done) | (simp [*]; done)), H', ⟨by first | omega | exact Nat.le_refl _⟩, ⟨by (with_reducible repeat (first | refine blk_drewN ?_ _ | refine blk_drew ?_ | refine blk_alloc ?_ _)); exact BK571001.out⟩, ⟨by repeat (first | (with_reducible first | exact HB.out | apply below_alloc | apply pw_below_drewN | apply below_drew1 | refine below_set ?_ GE571001.out) | exact HB.out)⟩⟩
  replace c5 := Bool.eq_false_iff.mpr c5
  subst c5
  have H1 : (spec_l03Is.j0 k true a0_0 l0_1) = some r := by rw [if_neg (show ¬ (false = true) by decide)] at H; exact H
  clear H
  have H := H1
  clear H1
  have H' := Aside0.mk H
  clear H
  have hcz7_0 : w3.cell? ⟨gb571001, 0, none⟩ = some (.int .i64 a0_0) := (blk_cell BK571001.out 0).trans rfl
  have hcz7_1 : w3.cell? ⟨gb571001, 1, none⟩ = some (.slice A0_1 l0_1.length c0_1) := (blk_cell BK571001.out 1).trans rfl
  have hfz7_0 := blk_frozen BK571001.out 0
  have hfz7_1 := blk_frozen BK571001.out 1
  go_wp2_with (first | ((with_reducible refine gate_callee (f := 112) rfl ?_); refine goesL_ (some 7) rfl rfl Try.func112 (by kernel_rfl) rfl #[.int .i64 a0_0] rfl (by (try simp only [List.map_toArray, List.map_cons, List.map_nil]); first | done | rfl | (simp only [List.length_drop, List.length_take]; rfl)) ?_; (with_reducible refine (spec_l03Prime.calls a0_0 false _ A4.out).mono ?_); rintro e w' ⟨rfl, ⟨nd, rfl⟩⟩; refine ⟨_, rfl, ?_⟩))
  go_meet
  case rel => exact ⟨_, (true), (by first | rfl | (simp; done) | (simp [*]; done)), H', ⟨by first | omega | exact Nat.le_refl _⟩, ⟨by (with_reducible repeat (first | refine blk_drewN ?_ _ | refine blk_drew ?_ | refine blk_alloc ?_ _)); exact BK571001.out⟩, ⟨by repeat (first | (with_reducible first | exact HB.out | apply below_alloc | apply pw_below_drewN | apply below_drew1 | refine below_set ?_ GE571001.out) | exact HB.out)⟩⟩
 case rest =>
  clear HC2
  try clear c1
  try clear p2
  try clear c5
  try clear hcz6_0
  try clear hcz6_1
  try clear hcz7_0
  try clear hcz7_1
  try clear hfz6_0
  try clear hfz6_1
  try clear hfz7_0
  try clear hfz7_1
  obtain ⟨kq, x14_1, rfl, HA, HJ1, BK571001, HB⟩ := hcut
  cases kq with
  | zero => exact absurd HA.out (by simp [spec_l03Is.j0])
  | succ kj1 =>
   have H := HA.out
   clear HA
   simp only [spec_l03Is.j0] at H
   by_cases c8 : x14_1 = true
   ·subst c8
    have H1 : (some false) = some r := by rw [if_pos rfl] at H; exact H
    clear H
    have H := H1
    clear H1
    obtain rfl := Option.some.inj H
    go_wp2
    go_ret
    exact ⟨by first | rfl | (simp [errW_none, errW_some] <;> rfl) | (simp [*, errW_none, errW_some] <;> rfl), by repeat (first | (with_reducible first | exact HB.out | apply below_alloc | apply pw_below_drewN | apply below_drew1 | refine below_set ?_ GE571001.out) | exact HB.out)⟩
   replace c8 := Bool.eq_false_iff.mpr c8
   subst c8
   have H1 : (spec_l03Is.l0 kj1 0 a0_0 l0_1) = some r := by rw [if_neg (show ¬ (false = true) by decide)] at H; exact H
   clear H
   have H := H1
   clear H1
   have H' := Aside0.mk H
   clear H
   go_wp2
   go_loopg [3] kj1 (fun kq v3 w' => ∃ (x3_2 : Int), v3 = .int .i64 x3_2 ∧ Aside0 (spec_l03Is.l0 kq x3_2 a0_0 l0_1 = some r) ∧ Aside0 (kq ≤ kj1) ∧ Aside0 (w'.heap[gb571001]? = some (.cells #[.int .i64 a0_0, (.slice A0_1 l0_1.length c0_1)] 46 (0, 0))) ∧ Aside0 (Below w.heap.size w w'))
   case atStart => exact ⟨(0), (by first | rfl | (simp; done) | (simp [*]; done)), H', ⟨Nat.le_refl _⟩, ⟨by (with_reducible repeat (first | refine blk_drewN ?_ _ | refine blk_drew ?_ | refine blk_alloc ?_ _)); exact BK571001.out⟩, ⟨by repeat (first | (with_reducible first | exact HB.out | apply below_alloc | apply pw_below_drewN | apply below_drew1 | refine below_set ?_ GE571001.out) | exact HB.out)⟩⟩
   case round =>
    clear H'
    try clear c1
    try clear p2
    try clear c5
    try clear c8
    try clear hcz6_0
    try clear hcz6_1
    try clear hcz7_0
    try clear hcz7_1
    try clear hfz6_0
    try clear hfz6_1
    try clear hfz7_0
    try clear hfz7_1
    try clear p2
    obtain ⟨x3_2, rfl, HA, HK2, BK571001, HB⟩ := hrel
    cases gk with
    | zero => exact absurd HA.out (by simp [spec_l03Is.l0])
    | succ k2 =>
     have H := HA.out
     clear HA
     simp only [spec_l03Is.l0] at H
     by_cases c9 : x3_2 < (l0_1.length : Int)
     rotate_left
     ·rw [if_neg c9] at H
      have c9b0 : decide (x3_2 < (l0_1.length : Int)) = false := decide_eq_false c9
      clear c9
      obtain rfl := Option.some.inj H
      have hcz56_0 : wr.cell? ⟨gb571001, 0, none⟩ = some (.int .i64 a0_0) := (blk_cell BK571001.out 0).trans rfl
      have hcz56_1 : wr.cell? ⟨gb571001, 1, none⟩ = some (.slice A0_1 l0_1.length c0_1) := (blk_cell BK571001.out 1).trans rfl
      have hfz56_0 := blk_frozen BK571001.out 0
      have hfz56_1 := blk_frozen BK571001.out 1
      go_wp2
      go_ret
      exact ⟨by first | rfl | (simp [errW_none, errW_some] <;> rfl) | (simp [*, errW_none, errW_some] <;> rfl), by repeat (first | (with_reducible first | exact HB.out | apply below_alloc | apply pw_below_drewN | apply below_drew1 | refine below_set ?_ GE571001.out) | exact HB.out)⟩
     rw [if_pos c9] at H
     have c9b0 : decide (x3_2 < (l0_1.length : Int)) = true := decide_eq_true c9
     clear c9
     by_cases c10 : 0 ≤ x3_2
     rotate_left
     ·rw [if_neg c10] at H
      exact absurd H (by simp)
     rw [if_pos c10] at H
     have c10b0 : decide (0 ≤ x3_2) = true := decide_eq_true c10
     clear c10
     replace H := Option.bind_eq_some_iff.mp H
     obtain ⟨t571005, A110, H⟩ := H
     replace H : (if t571005 = true then ((spec_l01In.f ((rd_T115 l0_1 x3_2).f1) 1 (wrap64 (a0_0 - 1))).bind fun t571006 => (if t571006 = true then (if x3_2 > 0 then (if 0 ≤ (wrap64 (x3_2 - 1)) then (if (wrap64 (x3_2 - 1)) < (l0_1.length : Int) then ((spec_l01Before.f k2 ((rd_T115 l0_1 (wrap64 (x3_2 - 1))).f0) ((rd_T115 l0_1 x3_2).f0)).bind fun t571008 => (if t571008 = true then (spec_l03Is.l0 k2 (wrap64 (x3_2 + 1)) a0_0 l0_1) else (some false))) else (none)) else (none)) else (spec_l03Is.l0 k2 (wrap64 (x3_2 + 1)) a0_0 l0_1)) else (some false))) else (some false)) = some r := H
     have A11 := Aside0.mk A110
     clear A110
     by_cases c12 : t571005 = true
     rotate_left
     ·replace c12 := Bool.eq_false_iff.mpr c12
      subst c12
      have H1 : (some false) = some r := by rw [if_neg (show ¬ (false = true) by decide)] at H; exact H
      clear H
      have H := H1
      clear H1
      obtain rfl := Option.some.inj H
      have hcz49_0 : wr.cell? ⟨gb571001, 0, none⟩ = some (.int .i64 a0_0) := (blk_cell BK571001.out 0).trans rfl
      have hcz49_1 : wr.cell? ⟨gb571001, 1, none⟩ = some (.slice A0_1 l0_1.length c0_1) := (blk_cell BK571001.out 1).trans rfl
      have hfz49_0 := blk_frozen BK571001.out 0
      have hfz49_1 := blk_frozen BK571001.out 1
      have p571003 : 0 ≤ (x3_2 : Int) := of_decide_eq_true (by first | (with_reducible assumption) | assumption)
      have q571003 : x3_2 < (l0_1.length : Int) := of_decide_eq_true (by first | (with_reducible assumption) | assumption)
      obtain ⟨ad571003, A571003_0, c571003_0, e571003, hx571003_0, hx571003_1, hl571003_0, hi571003_0⟩ := at_T115 HR0_1.out x3_2 p571003 q571003
      cases e571003
      replace hx571003_0 := (HB.out.cell (World.block_lt_of_cell? w _ hx571003_0)).trans hx571003_0
      replace hx571003_1 := (HB.out.cell (World.block_lt_of_cell? w _ hx571003_1)).trans hx571003_1
      have HR571003_0 := Aside0.mk hi571003_0
      have HC571003_0 := Aside0.mk hl571003_0
      clear hi571003_0 hl571003_0
      replace p571003 := eq_true p571003
      replace q571003 := eq_true q571003
      try go_wp2_with (first | ((with_reducible refine gate_dst (N := 4) rfl ?_); (try (refine gate_guard (by rfl) ?_; dsimp only)); refine box_event ?hg (N := 4) ?hd (cs := #[.slice none 0 0, .int .i64 0]) (t := 115) ?hr ?_; (case hd => rfl); (case hg => rfl); (case hr => first | (go_simp; done) | (go_simp; rfl)); intro gb571004 hg w50 hbox hb; have n0_ := Aside0.mk (blk_below (g := gb571001) (o := .cells #[.int .i64 a0_0, .slice (some ad571003) l0_1.length c0_1] 46 (0, 0)) (by (with_reducible repeat (first | refine blk_drewN ?_ _ | refine blk_drew ?_ | refine blk_alloc ?_ _)); exact BK571001.out) hb); have n1_ := Aside0.mk (below_step (by repeat (first | (with_reducible first | exact HB.out | apply below_alloc | apply pw_below_drewN | apply below_drew1 | refine below_set ?_ GE571001.out) | exact HB.out)) hb); have n2_ := Aside0.mk (hbox); have n3_ := Aside0.mk ((by rw [hg]; exact (below_size (by repeat (first | (with_reducible first | exact HB.out | apply below_alloc | apply pw_below_drewN | apply below_drew1 | refine below_set ?_ GE571001.out) | exact HB.out))) : w.heap.size ≤ gb571004)); have n4_ := Aside0.mk ((by rw [hg]; exact (below_size (by repeat (first | (with_reducible first | exact HB.out | apply below_alloc | apply pw_below_drewN | apply below_drew1 | refine below_set ?_ GE571001.out) | exact HB.out))) : w.heap.size ≤ gb571004)); have n5_ := Aside0.mk ((by rw [hg]; exact Nat.ne_of_lt (blk_lt (g := gb571001) (o := .cells #[.int .i64 a0_0, .slice (some ad571003) l0_1.length c0_1] 46 (0, 0)) (by (with_reducible repeat (first | refine blk_drewN ?_ _ | refine blk_drew ?_ | refine blk_alloc ?_ _)); exact BK571001.out)) : gb571001 ≠ gb571004)); have n6_ := Aside0.mk ((by rw [hg]; exact Nat.ne_of_gt (blk_lt (g := gb571001) (o := .cells #[.int .i64 a0_0, .slice (some ad571003) l0_1.length c0_1] 46 (0, 0)) (by (with_reducible repeat (first | refine blk_drewN ?_ _ | refine blk_drew ?_ | refine blk_alloc ?_ _)); exact BK571001.out)) : gb571004 ≠ gb571001)); clear BK571001; clear HB; have BK571001 := n0_; have HB := n1_; have BK571004 := n2_; have GW571004 := n3_; have GE571004 := n4_; have NB571001_571004 := n5_; have NB571004_571001 := n6_; clear n0_ n1_ n2_ n3_ n4_ n5_ n6_; clear hb hbox hg; have hnb51 := NB571004_571001.out; have hnc51 := NB571001_571004.out; have hcz52_0 : w50.cell? ⟨gb571004, 0, none⟩ = some (.slice none 0 0) := (blk_cell BK571004.out 0).trans rfl; have hcz52_1 : w50.cell? ⟨gb571004, 1, none⟩ = some (.int .i64 0) := (blk_cell BK571004.out 1).trans rfl; have hfz52_0 := blk_frozen BK571004.out 0; have hfz52_1 := blk_frozen BK571004.out 1))
      have n0_ : Aside0 (((w50.setCell ⟨gb571004, 0, none⟩ (.slice A571003_0 ((rd_T115 l0_1 x3_2).f0).length c571003_0)).setCell ⟨gb571004, 1, none⟩ (.int .i64 ((rd_T115 l0_1 x3_2).f1))).heap[gb571001]? = some (.cells #[.int .i64 a0_0, .slice (some ad571003) l0_1.length c0_1] 46 (0, 0))) := ⟨by (with_reducible repeat (first | refine blk_drewN ?_ _ | refine blk_drew ?_ | refine blk_alloc ?_ _)); refine blk_far ?_ NB571001_571004.out _; (with_reducible repeat (first | refine blk_drewN ?_ _ | refine blk_drew ?_ | refine blk_alloc ?_ _)); refine blk_far ?_ NB571001_571004.out _; (with_reducible repeat (first | refine blk_drewN ?_ _ | refine blk_drew ?_ | refine blk_alloc ?_ _)); exact BK571001.out⟩
      have n1_ : Aside0 (((w50.setCell ⟨gb571004, 0, none⟩ (.slice A571003_0 ((rd_T115 l0_1 x3_2).f0).length c571003_0)).setCell ⟨gb571004, 1, none⟩ (.int .i64 ((rd_T115 l0_1 x3_2).f1))).heap[gb571004]? = some (.cells #[.slice A571003_0 ((rd_T115 l0_1 x3_2).f0).length c571003_0, .int .i64 ((rd_T115 l0_1 x3_2).f1)] 115 (0, 0))) := ⟨by (with_reducible repeat (first | refine blk_drewN ?_ _ | refine blk_drew ?_ | refine blk_alloc ?_ _)); refine blk_put (cs := #[.slice A571003_0 ((rd_T115 l0_1 x3_2).f0).length c571003_0, .int .i64 0]) ?_ 1 _ rfl; (with_reducible repeat (first | refine blk_drewN ?_ _ | refine blk_drew ?_ | refine blk_alloc ?_ _)); refine blk_put (cs := #[.slice none 0 0, .int .i64 0]) ?_ 0 _ rfl; (with_reducible repeat (first | refine blk_drewN ?_ _ | refine blk_drew ?_ | refine blk_alloc ?_ _)); exact BK571004.out⟩
      have n2_ : Aside0 (Below w.heap.size w ((w50.setCell ⟨gb571004, 0, none⟩ (.slice A571003_0 ((rd_T115 l0_1 x3_2).f0).length c571003_0)).setCell ⟨gb571004, 1, none⟩ (.int .i64 ((rd_T115 l0_1 x3_2).f1)))) := ⟨by repeat (first | (with_reducible first | exact HB.out | apply below_alloc | apply pw_below_drewN | apply below_drew1 | refine below_set ?_ GE571001.out | refine below_set ?_ GE571004.out) | exact HB.out)⟩
      (try clear BK571001)
      (try clear BK571004)
      (try clear HB)
      generalize ((w50.setCell ⟨gb571004, 0, none⟩ (.slice A571003_0 ((rd_T115 l0_1 x3_2).f0).length c571003_0)).setCell ⟨gb571004, 1, none⟩ (.int .i64 ((rd_T115 l0_1 x3_2).f1))) = w53 at n0_ n1_ n2_ ⊢
      have BK571001 := n0_
      have BK571004 := n1_
      have HB := n2_
      clear n0_ n1_ n2_
      have n0_ := Aside0.mk (blk_drew BK571001.out)
      have n1_ := Aside0.mk (blk_drew BK571004.out)
      have n2_ := Aside0.mk (below_drew1 HB.out)
      clear BK571001
      clear BK571004
      clear HB
      have BK571001 := n0_
      have BK571004 := n1_
      have HB := n2_
      clear n0_ n1_ n2_
      refine start_ (n := 30) (S := fun w' => w'.cell? ⟨gb571004, 0, none⟩ = some (.slice A571003_0 ((rd_T115 l0_1 x3_2).f0).length c571003_0) ∧ w'.cell? ⟨gb571004, 1, none⟩ = some (.int .i64 ((rd_T115 l0_1 x3_2).f1))) (ds := []) bqFx57_0 (by kernel_rfl) rfl rfl ⟨(blk_cell BK571004.out 0).trans rfl, (blk_cell BK571004.out 1).trans rfl⟩ (fun hHeld => ?_); refine with_tabW spec_l03Is.tab7 spec_l03Is.bits7 (fun HT_ HW_ => ?_)
      generalize w53.drew = w54 at BK571001 BK571004 HB hHeld ⊢
      refine pure_ (i := 0) (N := some 27) (v := ?_) (a' := ?_) bqFx57_1 rfl rfl (any_of HT_.out (by kernel_rfl)) (fun _ _ _ h => h) (Or.inl ⟨by rfl, ?_⟩) ?_ ?_
      rotate_left
      ·intro w'
       go_simp
       with_reducible rfl
      rotate_left
      ·simp only [Act.put, List.setIfInBounds_toArray, List.set_cons_zero, List.set_cons_succ, i64_w, i32_w]
       rfl
      refine take_ (i := 1) (N := some 28) (v := ?_) (a' := ?_) bqFx57_2 rfl rfl (take_ofW HT_.out HW_.out (by kernel_rfl)) (fun _ _ _ h => h) (Or.inl ⟨by rfl, ?_⟩) hHeld ?_ ?_
      rotate_left
      ·rintro w' ⟨s0, s1⟩
       go_simp
       with_reducible rfl
      rotate_left
      ·simp only [Act.put, List.setIfInBounds_toArray, List.set_cons_zero, List.set_cons_succ, i64_w, i32_w]
       rfl
      refine one_ (i := 2) (N := some 29) bqFx57_3 rfl rfl (one_of HT_.out (by kernel_rfl)) (by decide) (fun K hK => ?_)
      refine goes_ Try.func56 (by kernel_rfl) rfl #[.slice A571003_0 ((rd_T115 l0_1 x3_2).f0).length c571003_0] (by rfl) rfl rfl (by (try simp only [List.map_toArray, List.map_cons, List.map_nil]); first | done | rfl | (simp only [List.length_drop, List.length_take]; rfl)) ?_
      with_reducible refine (spec_l01Is.calls k2 _ _ ((rd_T115 l0_1 x3_2).f0) false _ ?side1 ?side2 A11.out).mono ?_
      (case side1 => repeat (first | exact (Kd.C_below HR571003_0.out HB.out) | (with_reducible refine Kd.C_alloc ?_ _) | (with_reducible refine Kd.C_drewN ?_ _) | (with_reducible refine Kd.C_drew ?_)))
      (case side2 => exact HC571003_0.out)
      rintro e w55 ⟨rfl, hb⟩
      refine ⟨_, rfl, ?_⟩
      have n0_ := Aside0.mk (blk_below (g := gb571001) (o := .cells #[.int .i64 a0_0, .slice (some ad571003) l0_1.length c0_1] 46 (0, 0)) (by (with_reducible repeat (first | refine blk_drewN ?_ _ | refine blk_drew ?_ | refine blk_alloc ?_ _)); exact BK571001.out) hb)
      have n1_ := Aside0.mk (blk_below (g := gb571004) (o := .cells #[.slice A571003_0 ((rd_T115 l0_1 x3_2).f0).length c571003_0, .int .i64 ((rd_T115 l0_1 x3_2).f1)] 115 (0, 0)) (by (with_reducible repeat (first | refine blk_drewN ?_ _ | refine blk_drew ?_ | refine blk_alloc ?_ _)); exact BK571004.out) hb)
      have n2_ := Aside0.mk (below_step (by repeat (first | (with_reducible first | exact HB.out | apply below_alloc | apply pw_below_drewN | apply below_drew1 | refine below_set ?_ GE571001.out | refine below_set ?_ GE571004.out) | exact HB.out)) hb)
      clear BK571001
      clear BK571004
      clear HB
      have BK571001 := n0_
      have BK571004 := n1_
      have HB := n2_
      clear n0_ n1_ n2_
      (try clear hb)
      (try clear hb2)
      (try clear hk)
      (try clear hi)
      refine hK.out _ _ ⟨(blk_cell BK571004.out 0).trans rfl, (blk_cell BK571004.out 1).trans rfl⟩ (fun hHeld => ?_)
      clear hK K
      refine norm_ (a' := ?_) ?_ ?_
      rotate_left
      ·show Act.put _ (some 29) _ = _
       simp only [Act.put, List.setIfInBounds_toArray, List.set_cons_zero, List.set_cons_succ, i64_w, i32_w]
       rfl
      refine pure_ (i := 3) (N := some 30) (v := ?_) (a' := ?_) bqFx57_4 rfl rfl (any_of HT_.out (by kernel_rfl)) (fun _ _ _ h => h) (Or.inl ⟨by rfl, ?_⟩) ?_ ?_
      rotate_left
      ·intro w'
       go_simp
       with_reducible rfl
      rotate_left
      ·simp only [Act.put, List.setIfInBounds_toArray, List.set_cons_zero, List.set_cons_succ, i64_w, i32_w]
       rfl
      refine pure_ (i := 4) (N := some 31) (v := ?_) (a' := ?_) bqFx57_5 rfl rfl (any_of HT_.out (by kernel_rfl)) (fun _ _ _ h => h) (Or.inl ⟨by rfl, ?_⟩) ?_ ?_
      rotate_left
      ·intro w'
       go_simp
       with_reducible rfl
      rotate_left
      ·simp only [Act.put, List.setIfInBounds_toArray, List.set_cons_zero, List.set_cons_succ, i64_w, i32_w]
       rfl
      refine pure_ (i := 5) (N := some 32) (v := undef) (a' := ?_) bqFx57_6 rfl rfl (any_of HT_.out (by kernel_rfl)) (fun _ _ _ h => h) (Or.inr ⟨by rfl, rfl⟩) ?_ ?_
      rotate_left
      ·simp only [Act.put, List.setIfInBounds_toArray, List.set_cons_zero, List.set_cons_succ, i64_w, i32_w]
       rfl
      refine pure_ (i := 6) (N := some 33) (v := undef) (a' := ?_) bqFx57_7 rfl rfl (any_of HT_.out (by kernel_rfl)) (fun _ _ _ h => h) (Or.inr ⟨by rfl, rfl⟩) ?_ ?_
      rotate_left
      ·simp only [Act.put, List.setIfInBounds_toArray, List.set_cons_zero, List.set_cons_succ, i64_w, i32_w]
       rfl
      refine pure_ (i := 7) (N := some 34) (v := undef) (a' := ?_) bqFx57_8 rfl rfl (any_of HT_.out (by kernel_rfl)) (fun _ _ _ h => h) (Or.inr ⟨by rfl, rfl⟩) ?_ ?_
      rotate_left
      ·simp only [Act.put, List.setIfInBounds_toArray, List.set_cons_zero, List.set_cons_succ, i64_w, i32_w]
       rfl
      refine pure_ (i := 8) (N := some 35) (v := undef) (a' := ?_) bqFx57_9 rfl rfl (any_of HT_.out (by kernel_rfl)) (fun _ _ _ h => h) (Or.inr ⟨by rfl, rfl⟩) ?_ ?_
      rotate_left
      ·simp only [Act.put, List.setIfInBounds_toArray, List.set_cons_zero, List.set_cons_succ, i64_w, i32_w]
       rfl
      refine pure_ (i := 9) (N := some 36) (v := undef) (a' := ?_) bqFx57_10 rfl rfl (any_of HT_.out (by kernel_rfl)) (fun _ _ _ h => h) (Or.inr ⟨by rfl, rfl⟩) ?_ ?_
      rotate_left
      ·simp only [Act.put, List.setIfInBounds_toArray, List.set_cons_zero, List.set_cons_succ, i64_w, i32_w]
       rfl
      refine pure_ (i := 10) (N := some 37) (v := undef) (a' := ?_) bqFx57_11 rfl rfl (any_of HT_.out (by kernel_rfl)) (fun _ _ _ h => h) (Or.inr ⟨by rfl, rfl⟩) ?_ ?_
      rotate_left
      ·simp only [Act.put, List.setIfInBounds_toArray, List.set_cons_zero, List.set_cons_succ, i64_w, i32_w]
       rfl
      refine pure_ (i := 11) (N := some 38) (v := undef) (a' := ?_) bqFx57_12 rfl rfl (any_of HT_.out (by kernel_rfl)) (fun _ _ _ h => h) (Or.inr ⟨by rfl, rfl⟩) ?_ ?_
      rotate_left
      ·simp only [Act.put, List.setIfInBounds_toArray, List.set_cons_zero, List.set_cons_succ, i64_w, i32_w]
       rfl
      refine pure_ (i := 12) (N := some 39) (v := ?_) (a' := ?_) bqFx57_13 rfl rfl (any_of HT_.out (by kernel_rfl)) (fun _ _ _ h => h) (Or.inl ⟨by rfl, ?_⟩) ?_ ?_
      rotate_left
      ·intro w'
       go_simp
       with_reducible rfl
      rotate_left
      ·simp only [Act.put, List.setIfInBounds_toArray, List.set_cons_zero, List.set_cons_succ, i64_w, i32_w]
       rfl
      refine pure_ (i := 13) (N := some 40) (v := ?_) (a' := ?_) bqFx57_14 rfl rfl (any_of HT_.out (by kernel_rfl)) (fun _ _ _ h => h) (Or.inl ⟨by rfl, ?_⟩) ?_ ?_
      rotate_left
      ·intro w'
       go_simp
       with_reducible rfl
      rotate_left
      ·simp only [Act.put, List.setIfInBounds_toArray, List.set_cons_zero, List.set_cons_succ, i64_w, i32_w]
       rfl
      refine pure_ (i := 14) (N := some 41) (v := undef) (a' := ?_) bqFx57_15 rfl rfl (any_of HT_.out (by kernel_rfl)) (fun _ _ _ h => h) (Or.inr ⟨by rfl, rfl⟩) ?_ ?_
      rotate_left
      ·simp only [Act.put, List.setIfInBounds_toArray, List.set_cons_zero, List.set_cons_succ, i64_w, i32_w]
       rfl
      refine pure_ (i := 15) (N := some 42) (v := undef) (a' := ?_) bqFx57_16 rfl rfl (any_of HT_.out (by kernel_rfl)) (fun _ _ _ h => h) (Or.inr ⟨by rfl, rfl⟩) ?_ ?_
      rotate_left
      ·simp only [Act.put, List.setIfInBounds_toArray, List.set_cons_zero, List.set_cons_succ, i64_w, i32_w]
       rfl
      refine pure_ (i := 16) (N := some 43) (v := undef) (a' := ?_) bqFx57_17 rfl rfl (any_of HT_.out (by kernel_rfl)) (fun _ _ _ h => h) (Or.inr ⟨by rfl, rfl⟩) ?_ ?_
      rotate_left
      ·simp only [Act.put, List.setIfInBounds_toArray, List.set_cons_zero, List.set_cons_succ, i64_w, i32_w]
       rfl
      refine pure_ (i := 17) (N := some 44) (v := undef) (a' := ?_) bqFx57_18 rfl rfl (any_of HT_.out (by kernel_rfl)) (fun _ _ _ h => h) (Or.inr ⟨by rfl, rfl⟩) ?_ ?_
      rotate_left
      ·simp only [Act.put, List.setIfInBounds_toArray, List.set_cons_zero, List.set_cons_succ, i64_w, i32_w]
       rfl
      refine pure_ (i := 18) (N := some 45) (v := undef) (a' := ?_) bqFx57_19 rfl rfl (any_of HT_.out (by kernel_rfl)) (fun _ _ _ h => h) (Or.inr ⟨by rfl, rfl⟩) ?_ ?_
      rotate_left
      ·simp only [Act.put, List.setIfInBounds_toArray, List.set_cons_zero, List.set_cons_succ, i64_w, i32_w]
       rfl
      refine pure_ (i := 19) (N := some 46) (v := undef) (a' := ?_) bqFx57_20 rfl rfl (any_of HT_.out (by kernel_rfl)) (fun _ _ _ h => h) (Or.inr ⟨by rfl, rfl⟩) ?_ ?_
      rotate_left
      ·simp only [Act.put, List.setIfInBounds_toArray, List.set_cons_zero, List.set_cons_succ, i64_w, i32_w]
       rfl
      refine pure_ (i := 20) (N := some 47) (v := undef) (a' := ?_) bqFx57_21 rfl rfl (any_of HT_.out (by kernel_rfl)) (fun _ _ _ h => h) (Or.inr ⟨by rfl, rfl⟩) ?_ ?_
      rotate_left
      ·simp only [Act.put, List.setIfInBounds_toArray, List.set_cons_zero, List.set_cons_succ, i64_w, i32_w]
       rfl
      refine pure_ (i := 21) (N := some 48) (v := undef) (a' := ?_) bqFx57_22 rfl rfl (any_of HT_.out (by kernel_rfl)) (fun _ _ _ h => h) (Or.inr ⟨by rfl, rfl⟩) ?_ ?_
      rotate_left
      ·simp only [Act.put, List.setIfInBounds_toArray, List.set_cons_zero, List.set_cons_succ, i64_w, i32_w]
       rfl
      refine pure_ (i := 22) (N := some 49) (v := undef) (a' := ?_) bqFx57_23 rfl rfl (any_of HT_.out (by kernel_rfl)) (fun _ _ _ h => h) (Or.inr ⟨by rfl, rfl⟩) ?_ ?_
      rotate_left
      ·simp only [Act.put, List.setIfInBounds_toArray, List.set_cons_zero, List.set_cons_succ, i64_w, i32_w]
       rfl
      refine pure_ (i := 23) (N := some 50) (v := undef) (a' := ?_) bqFx57_24 rfl rfl (any_of HT_.out (by kernel_rfl)) (fun _ _ _ h => h) (Or.inr ⟨by rfl, rfl⟩) ?_ ?_
      rotate_left
      ·simp only [Act.put, List.setIfInBounds_toArray, List.set_cons_zero, List.set_cons_succ, i64_w, i32_w]
       rfl
      refine pure_ (i := 24) (N := some 51) (v := undef) (a' := ?_) bqFx57_25 rfl rfl (any_of HT_.out (by kernel_rfl)) (fun _ _ _ h => h) (Or.inr ⟨by rfl, rfl⟩) ?_ ?_
      rotate_left
      ·simp only [Act.put, List.setIfInBounds_toArray, List.set_cons_zero, List.set_cons_succ, i64_w, i32_w]
       rfl
      refine pure_ (i := 25) (N := some 52) (v := undef) (a' := ?_) bqFx57_26 rfl rfl (any_of HT_.out (by kernel_rfl)) (fun _ _ _ h => h) (Or.inr ⟨by rfl, rfl⟩) ?_ ?_
      rotate_left
      ·simp only [Act.put, List.setIfInBounds_toArray, List.set_cons_zero, List.set_cons_succ, i64_w, i32_w]
       rfl
      refine pure_ (i := 26) (N := some 53) (v := undef) (a' := ?_) bqFx57_27 rfl rfl (any_of HT_.out (by kernel_rfl)) (fun _ _ _ h => h) (Or.inr ⟨by rfl, rfl⟩) ?_ ?_
      rotate_left
      ·simp only [Act.put, List.setIfInBounds_toArray, List.set_cons_zero, List.set_cons_succ, i64_w, i32_w]
       rfl
      refine pure_ (i := 27) (N := some 54) (v := undef) (a' := ?_) bqFx57_28 rfl rfl (any_of HT_.out (by kernel_rfl)) (fun _ _ _ h => h) (Or.inr ⟨by rfl, rfl⟩) ?_ ?_
      rotate_left
      ·simp only [Act.put, List.setIfInBounds_toArray, List.set_cons_zero, List.set_cons_succ, i64_w, i32_w]
       rfl
      refine pure_ (i := 28) (N := some 55) (v := undef) (a' := ?_) bqFx57_29 rfl rfl (any_of HT_.out (by kernel_rfl)) (fun _ _ _ h => h) (Or.inr ⟨by rfl, rfl⟩) ?_ ?_
      rotate_left
      ·simp only [Act.put, List.setIfInBounds_toArray, List.set_cons_zero, List.set_cons_succ, i64_w, i32_w]
       rfl
      refine pure_ (i := 29) (N := some 56) (v := ?_) (a' := ?_) bqFx57_30 rfl rfl (any_of HT_.out (by kernel_rfl)) (fun _ _ _ h => h) (Or.inl ⟨by rfl, ?_⟩) ?_ ?_
      rotate_left
      ·intro w'
       go_simp
       with_reducible rfl
      rotate_left
      ·simp only [Act.put, List.setIfInBounds_toArray, List.set_cons_zero, List.set_cons_succ, i64_w, i32_w]
       rfl
      refine done_ (done_of HT_.out (by kernel_rfl)) ?_
      try go_wp2
      go_ret
      exact ⟨by first | rfl | (simp [errW_none, errW_some] <;> rfl) | (simp [*, errW_none, errW_some] <;> rfl), by repeat (first | (with_reducible first | exact HB.out | apply below_alloc | apply pw_below_drewN | apply below_drew1 | refine below_set ?_ GE571001.out | refine below_set ?_ GE571004.out) | exact HB.out)⟩
     subst c12
     have H1 : ((spec_l01In.f ((rd_T115 l0_1 x3_2).f1) 1 (wrap64 (a0_0 - 1))).bind fun t571006 => (if t571006 = true then (if x3_2 > 0 then (if 0 ≤ (wrap64 (x3_2 - 1)) then (if (wrap64 (x3_2 - 1)) < (l0_1.length : Int) then ((spec_l01Before.f k2 ((rd_T115 l0_1 (wrap64 (x3_2 - 1))).f0) ((rd_T115 l0_1 x3_2).f0)).bind fun t571008 => (if t571008 = true then (spec_l03Is.l0 k2 (wrap64 (x3_2 + 1)) a0_0 l0_1) else (some false))) else (none)) else (none)) else (spec_l03Is.l0 k2 (wrap64 (x3_2 + 1)) a0_0 l0_1)) else (some false))) = some r := by rw [if_pos rfl] at H; exact H
     clear H
     have H := H1
     clear H1
     replace H := Option.bind_eq_some_iff.mp H
     obtain ⟨t571006, A130, H⟩ := H
     replace H : (if t571006 = true then (if x3_2 > 0 then (if 0 ≤ (wrap64 (x3_2 - 1)) then (if (wrap64 (x3_2 - 1)) < (l0_1.length : Int) then ((spec_l01Before.f k2 ((rd_T115 l0_1 (wrap64 (x3_2 - 1))).f0) ((rd_T115 l0_1 x3_2).f0)).bind fun t571008 => (if t571008 = true then (spec_l03Is.l0 k2 (wrap64 (x3_2 + 1)) a0_0 l0_1) else (some false))) else (none)) else (none)) else (spec_l03Is.l0 k2 (wrap64 (x3_2 + 1)) a0_0 l0_1)) else (some false)) = some r := H
     have A13 := Aside0.mk A130
     clear A130
     by_cases c14 : t571006 = true
     rotate_left
     ·replace c14 := Bool.eq_false_iff.mpr c14
      subst c14
      have H1 : (some false) = some r := by rw [if_neg (show ¬ (false = true) by decide)] at H; exact H
      clear H
      have H := H1
      clear H1
      obtain rfl := Option.some.inj H
      have hcz42_0 : wr.cell? ⟨gb571001, 0, none⟩ = some (.int .i64 a0_0) := (blk_cell BK571001.out 0).trans rfl
      have hcz42_1 : wr.cell? ⟨gb571001, 1, none⟩ = some (.slice A0_1 l0_1.length c0_1) := (blk_cell BK571001.out 1).trans rfl
      have hfz42_0 := blk_frozen BK571001.out 0
      have hfz42_1 := blk_frozen BK571001.out 1
      have p571003 : 0 ≤ (x3_2 : Int) := of_decide_eq_true (by first | (with_reducible assumption) | assumption)
      have q571003 : x3_2 < (l0_1.length : Int) := of_decide_eq_true (by first | (with_reducible assumption) | assumption)
      obtain ⟨ad571003, A571003_0, c571003_0, e571003, hx571003_0, hx571003_1, hl571003_0, hi571003_0⟩ := at_T115 HR0_1.out x3_2 p571003 q571003
      cases e571003
      replace hx571003_0 := (HB.out.cell (World.block_lt_of_cell? w _ hx571003_0)).trans hx571003_0
      replace hx571003_1 := (HB.out.cell (World.block_lt_of_cell? w _ hx571003_1)).trans hx571003_1
      have HR571003_0 := Aside0.mk hi571003_0
      have HC571003_0 := Aside0.mk hl571003_0
      clear hi571003_0 hl571003_0
      replace p571003 := eq_true p571003
      replace q571003 := eq_true q571003
      try go_wp2_with (first | ((with_reducible refine gate_dst (N := 4) rfl ?_); (try (refine gate_guard (by rfl) ?_; dsimp only)); refine box_event ?hg (N := 4) ?hd (cs := #[.slice none 0 0, .int .i64 0]) (t := 115) ?hr ?_; (case hd => rfl); (case hg => rfl); (case hr => first | (go_simp; done) | (go_simp; rfl)); intro gb571004 hg w43 hbox hb; have n0_ := Aside0.mk (blk_below (g := gb571001) (o := .cells #[.int .i64 a0_0, .slice (some ad571003) l0_1.length c0_1] 46 (0, 0)) (by (with_reducible repeat (first | refine blk_drewN ?_ _ | refine blk_drew ?_ | refine blk_alloc ?_ _)); exact BK571001.out) hb); have n1_ := Aside0.mk (below_step (by repeat (first | (with_reducible first | exact HB.out | apply below_alloc | apply pw_below_drewN | apply below_drew1 | refine below_set ?_ GE571001.out) | exact HB.out)) hb); have n2_ := Aside0.mk (hbox); have n3_ := Aside0.mk ((by rw [hg]; exact (below_size (by repeat (first | (with_reducible first | exact HB.out | apply below_alloc | apply pw_below_drewN | apply below_drew1 | refine below_set ?_ GE571001.out) | exact HB.out))) : w.heap.size ≤ gb571004)); have n4_ := Aside0.mk ((by rw [hg]; exact (below_size (by repeat (first | (with_reducible first | exact HB.out | apply below_alloc | apply pw_below_drewN | apply below_drew1 | refine below_set ?_ GE571001.out) | exact HB.out))) : w.heap.size ≤ gb571004)); have n5_ := Aside0.mk ((by rw [hg]; exact Nat.ne_of_lt (blk_lt (g := gb571001) (o := .cells #[.int .i64 a0_0, .slice (some ad571003) l0_1.length c0_1] 46 (0, 0)) (by (with_reducible repeat (first | refine blk_drewN ?_ _ | refine blk_drew ?_ | refine blk_alloc ?_ _)); exact BK571001.out)) : gb571001 ≠ gb571004)); have n6_ := Aside0.mk ((by rw [hg]; exact Nat.ne_of_gt (blk_lt (g := gb571001) (o := .cells #[.int .i64 a0_0, .slice (some ad571003) l0_1.length c0_1] 46 (0, 0)) (by (with_reducible repeat (first | refine blk_drewN ?_ _ | refine blk_drew ?_ | refine blk_alloc ?_ _)); exact BK571001.out)) : gb571004 ≠ gb571001)); clear BK571001; clear HB; have BK571001 := n0_; have HB := n1_; have BK571004 := n2_; have GW571004 := n3_; have GE571004 := n4_; have NB571001_571004 := n5_; have NB571004_571001 := n6_; clear n0_ n1_ n2_ n3_ n4_ n5_ n6_; clear hb hbox hg; have hnb44 := NB571004_571001.out; have hnc44 := NB571001_571004.out; have hcz45_0 : w43.cell? ⟨gb571004, 0, none⟩ = some (.slice none 0 0) := (blk_cell BK571004.out 0).trans rfl; have hcz45_1 : w43.cell? ⟨gb571004, 1, none⟩ = some (.int .i64 0) := (blk_cell BK571004.out 1).trans rfl; have hfz45_0 := blk_frozen BK571004.out 0; have hfz45_1 := blk_frozen BK571004.out 1))
      have n0_ : Aside0 (((w43.setCell ⟨gb571004, 0, none⟩ (.slice A571003_0 ((rd_T115 l0_1 x3_2).f0).length c571003_0)).setCell ⟨gb571004, 1, none⟩ (.int .i64 ((rd_T115 l0_1 x3_2).f1))).heap[gb571001]? = some (.cells #[.int .i64 a0_0, .slice (some ad571003) l0_1.length c0_1] 46 (0, 0))) := ⟨by (with_reducible repeat (first | refine blk_drewN ?_ _ | refine blk_drew ?_ | refine blk_alloc ?_ _)); refine blk_far ?_ NB571001_571004.out _; (with_reducible repeat (first | refine blk_drewN ?_ _ | refine blk_drew ?_ | refine blk_alloc ?_ _)); refine blk_far ?_ NB571001_571004.out _; (with_reducible repeat (first | refine blk_drewN ?_ _ | refine blk_drew ?_ | refine blk_alloc ?_ _)); exact BK571001.out⟩
      have n1_ : Aside0 (((w43.setCell ⟨gb571004, 0, none⟩ (.slice A571003_0 ((rd_T115 l0_1 x3_2).f0).length c571003_0)).setCell ⟨gb571004, 1, none⟩ (.int .i64 ((rd_T115 l0_1 x3_2).f1))).heap[gb571004]? = some (.cells #[.slice A571003_0 ((rd_T115 l0_1 x3_2).f0).length c571003_0, .int .i64 ((rd_T115 l0_1 x3_2).f1)] 115 (0, 0))) := ⟨by (with_reducible repeat (first | refine blk_drewN ?_ _ | refine blk_drew ?_ | refine blk_alloc ?_ _)); refine blk_put (cs := #[.slice A571003_0 ((rd_T115 l0_1 x3_2).f0).length c571003_0, .int .i64 0]) ?_ 1 _ rfl; (with_reducible repeat (first | refine blk_drewN ?_ _ | refine blk_drew ?_ | refine blk_alloc ?_ _)); refine blk_put (cs := #[.slice none 0 0, .int .i64 0]) ?_ 0 _ rfl; (with_reducible repeat (first | refine blk_drewN ?_ _ | refine blk_drew ?_ | refine blk_alloc ?_ _)); exact BK571004.out⟩
      have n2_ : Aside0 (Below w.heap.size w ((w43.setCell ⟨gb571004, 0, none⟩ (.slice A571003_0 ((rd_T115 l0_1 x3_2).f0).length c571003_0)).setCell ⟨gb571004, 1, none⟩ (.int .i64 ((rd_T115 l0_1 x3_2).f1)))) := ⟨by repeat (first | (with_reducible first | exact HB.out | apply below_alloc | apply pw_below_drewN | apply below_drew1 | refine below_set ?_ GE571001.out | refine below_set ?_ GE571004.out) | exact HB.out)⟩
      (try clear BK571001)
      (try clear BK571004)
      (try clear HB)
      generalize ((w43.setCell ⟨gb571004, 0, none⟩ (.slice A571003_0 ((rd_T115 l0_1 x3_2).f0).length c571003_0)).setCell ⟨gb571004, 1, none⟩ (.int .i64 ((rd_T115 l0_1 x3_2).f1))) = w46 at n0_ n1_ n2_ ⊢
      have BK571001 := n0_
      have BK571004 := n1_
      have HB := n2_
      clear n0_ n1_ n2_
      have n0_ := Aside0.mk (blk_drew BK571001.out)
      have n1_ := Aside0.mk (blk_drew BK571004.out)
      have n2_ := Aside0.mk (below_drew1 HB.out)
      clear BK571001
      clear BK571004
      clear HB
      have BK571001 := n0_
      have BK571004 := n1_
      have HB := n2_
      clear n0_ n1_ n2_
      refine start_ (n := 30) (S := fun w' => w'.cell? ⟨gb571004, 0, none⟩ = some (.slice A571003_0 ((rd_T115 l0_1 x3_2).f0).length c571003_0) ∧ w'.cell? ⟨gb571004, 1, none⟩ = some (.int .i64 ((rd_T115 l0_1 x3_2).f1)) ∧ w'.cell? ⟨gb571001, 0, none⟩ = some (.int .i64 a0_0) ∧ w'.cell? ⟨gb571001, 1, none⟩ = some (.slice (some ad571003) l0_1.length c0_1)) (ds := []) bqFx57_0 (by kernel_rfl) rfl rfl ⟨(blk_cell BK571004.out 0).trans rfl, (blk_cell BK571004.out 1).trans rfl, (blk_cell BK571001.out 0).trans rfl, (blk_cell BK571001.out 1).trans rfl⟩ (fun hHeld => ?_); refine with_tabW spec_l03Is.tab7 spec_l03Is.bits7 (fun HT_ HW_ => ?_)
      generalize w46.drew = w47 at BK571001 BK571004 HB hHeld ⊢
      refine pure_ (i := 0) (N := some 27) (v := ?_) (a' := ?_) bqFx57_1 rfl rfl (any_of HT_.out (by kernel_rfl)) (fun _ _ _ h => h) (Or.inl ⟨by rfl, ?_⟩) ?_ ?_
      rotate_left
      ·intro w'
       go_simp
       with_reducible rfl
      rotate_left
      ·simp only [Act.put, List.setIfInBounds_toArray, List.set_cons_zero, List.set_cons_succ, i64_w, i32_w]
       rfl
      refine take_ (i := 1) (N := some 28) (v := ?_) (a' := ?_) bqFx57_2 rfl rfl (take_ofW HT_.out HW_.out (by kernel_rfl)) (fun _ _ _ h => h) (Or.inl ⟨by rfl, ?_⟩) hHeld ?_ ?_
      rotate_left
      ·rintro w' ⟨s0, s1, s2, s3⟩
       go_simp
       with_reducible rfl
      rotate_left
      ·simp only [Act.put, List.setIfInBounds_toArray, List.set_cons_zero, List.set_cons_succ, i64_w, i32_w]
       rfl
      refine one_ (i := 2) (N := some 29) bqFx57_3 rfl rfl (one_of HT_.out (by kernel_rfl)) (by decide) (fun K hK => ?_)
      refine goes_ Try.func56 (by kernel_rfl) rfl #[.slice A571003_0 ((rd_T115 l0_1 x3_2).f0).length c571003_0] (by rfl) rfl rfl (by (try simp only [List.map_toArray, List.map_cons, List.map_nil]); first | done | rfl | (simp only [List.length_drop, List.length_take]; rfl)) ?_
      with_reducible refine (spec_l01Is.calls k2 _ _ ((rd_T115 l0_1 x3_2).f0) true _ ?side1 ?side2 A11.out).mono ?_
      (case side1 => repeat (first | exact (Kd.C_below HR571003_0.out HB.out) | (with_reducible refine Kd.C_alloc ?_ _) | (with_reducible refine Kd.C_drewN ?_ _) | (with_reducible refine Kd.C_drew ?_)))
      (case side2 => exact HC571003_0.out)
      rintro e w48 ⟨rfl, hb⟩
      refine ⟨_, rfl, ?_⟩
      have n0_ := Aside0.mk (blk_below (g := gb571001) (o := .cells #[.int .i64 a0_0, .slice (some ad571003) l0_1.length c0_1] 46 (0, 0)) (by (with_reducible repeat (first | refine blk_drewN ?_ _ | refine blk_drew ?_ | refine blk_alloc ?_ _)); exact BK571001.out) hb)
      have n1_ := Aside0.mk (blk_below (g := gb571004) (o := .cells #[.slice A571003_0 ((rd_T115 l0_1 x3_2).f0).length c571003_0, .int .i64 ((rd_T115 l0_1 x3_2).f1)] 115 (0, 0)) (by (with_reducible repeat (first | refine blk_drewN ?_ _ | refine blk_drew ?_ | refine blk_alloc ?_ _)); exact BK571004.out) hb)
      have n2_ := Aside0.mk (below_step (by repeat (first | (with_reducible first | exact HB.out | apply below_alloc | apply pw_below_drewN | apply below_drew1 | refine below_set ?_ GE571001.out | refine below_set ?_ GE571004.out) | exact HB.out)) hb)
      clear BK571001
      clear BK571004
      clear HB
      have BK571001 := n0_
      have BK571004 := n1_
      have HB := n2_
      clear n0_ n1_ n2_
      (try clear hb)
      (try clear hb2)
      (try clear hk)
      (try clear hi)
      refine hK.out _ _ ⟨(blk_cell BK571004.out 0).trans rfl, (blk_cell BK571004.out 1).trans rfl, (blk_cell BK571001.out 0).trans rfl, (blk_cell BK571001.out 1).trans rfl⟩ (fun hHeld => ?_)
      clear hK K
      refine norm_ (a' := ?_) ?_ ?_
      rotate_left
      ·show Act.put _ (some 29) _ = _
       simp only [Act.put, List.setIfInBounds_toArray, List.set_cons_zero, List.set_cons_succ, i64_w, i32_w]
       rfl
      refine pure_ (i := 3) (N := some 30) (v := ?_) (a' := ?_) bqFx57_4 rfl rfl (any_of HT_.out (by kernel_rfl)) (fun _ _ _ h => h) (Or.inl ⟨by rfl, ?_⟩) ?_ ?_
      rotate_left
      ·intro w'
       go_simp
       with_reducible rfl
      rotate_left
      ·simp only [Act.put, List.setIfInBounds_toArray, List.set_cons_zero, List.set_cons_succ, i64_w, i32_w]
       rfl
      refine pure_ (i := 4) (N := some 31) (v := ?_) (a' := ?_) bqFx57_5 rfl rfl (any_of HT_.out (by kernel_rfl)) (fun _ _ _ h => h) (Or.inl ⟨by rfl, ?_⟩) ?_ ?_
      rotate_left
      ·intro w'
       go_simp
       with_reducible rfl
      rotate_left
      ·simp only [Act.put, List.setIfInBounds_toArray, List.set_cons_zero, List.set_cons_succ, i64_w, i32_w]
       rfl
      refine pure_ (i := 5) (N := some 32) (v := ?_) (a' := ?_) bqFx57_6 rfl rfl (any_of HT_.out (by kernel_rfl)) (fun _ _ _ h => h) (Or.inl ⟨by rfl, ?_⟩) ?_ ?_
      rotate_left
      ·intro w'
       go_simp
       with_reducible rfl
      rotate_left
      ·simp only [Act.put, List.setIfInBounds_toArray, List.set_cons_zero, List.set_cons_succ, i64_w, i32_w]
       rfl
      refine pure_ (i := 7) (N := some 34) (v := ?_) (a' := ?_) bqFx57_31 rfl rfl (any_of HT_.out (by kernel_rfl)) (fun _ _ _ h => h) (Or.inl ⟨by rfl, ?_⟩) ?_ ?_
      rotate_left
      ·intro w'
       go_simp
       with_reducible rfl
      rotate_left
      ·simp only [Act.put, List.setIfInBounds_toArray, List.set_cons_zero, List.set_cons_succ, i64_w, i32_w]
       rfl
      refine take_ (i := 6) (N := some 33) (v := ?_) (a' := ?_) bqFx57_8 rfl rfl (take_ofW HT_.out HW_.out (by kernel_rfl)) (fun _ _ _ h => h) (Or.inl ⟨by rfl, ?_⟩) hHeld ?_ ?_
      rotate_left
      ·rintro w' ⟨s0, s1, s2, s3⟩
       go_simp
       with_reducible rfl
      rotate_left
      ·simp only [Act.put, List.setIfInBounds_toArray, List.set_cons_zero, List.set_cons_succ, i64_w, i32_w]
       rfl
      refine take_ (i := 8) (N := some 35) (v := ?_) (a' := ?_) bqFx57_9 rfl rfl (take_ofW HT_.out HW_.out (by kernel_rfl)) (fun _ _ _ h => h) (Or.inl ⟨by rfl, ?_⟩) hHeld ?_ ?_
      rotate_left
      ·rintro w' ⟨s0, s1, s2, s3⟩
       go_simp
       with_reducible rfl
      rotate_left
      ·simp only [Act.put, List.setIfInBounds_toArray, List.set_cons_zero, List.set_cons_succ, i64_w, i32_w]
       rfl
      refine pure_ (i := 9) (N := some 36) (v := ?_) (a' := ?_) bqFx57_10 rfl rfl (any_of HT_.out (by kernel_rfl)) (fun _ _ _ h => h) (Or.inl ⟨by rfl, ?_⟩) ?_ ?_
      rotate_left
      ·intro w'
       go_simp
       with_reducible rfl
      rotate_left
      ·simp only [Act.put, List.setIfInBounds_toArray, List.set_cons_zero, List.set_cons_succ, i64_w, i32_w]
       rfl
      refine one_ (i := 10) (N := some 37) bqFx57_11 rfl rfl (one_of HT_.out (by kernel_rfl)) (by decide) (fun K hK => ?_)
      refine goes_ Try.func64 (by kernel_rfl) rfl #[.int .i64 ((rd_T115 l0_1 x3_2).f1), .int .i64 1, .int .i64 (wrap64 (a0_0 - 1))] (by rfl) rfl rfl (by (try simp only [List.map_toArray, List.map_cons, List.map_nil]); first | done | rfl | (simp only [List.length_drop, List.length_take]; rfl)) ?_
      with_reducible refine (spec_l01In.calls ((rd_T115 l0_1 x3_2).f1) 1 (wrap64 (a0_0 - 1)) false _ A13.out).mono ?_
      rintro e w' ⟨rfl, ⟨nd, rfl⟩⟩
      refine ⟨_, rfl, ?_⟩
      refine hK.out _ _ ⟨(blk_cell BK571004.out 0).trans rfl, (blk_cell BK571004.out 1).trans rfl, (blk_cell BK571001.out 0).trans rfl, (blk_cell BK571001.out 1).trans rfl⟩ (fun hHeld => ?_)
      clear hK K
      refine norm_ (a' := ?_) ?_ ?_
      rotate_left
      ·show Act.put _ (some 37) _ = _
       simp only [Act.put, List.setIfInBounds_toArray, List.set_cons_zero, List.set_cons_succ, i64_w, i32_w]
       rfl
      refine pure_ (i := 11) (N := some 38) (v := ?_) (a' := ?_) bqFx57_12 rfl rfl (any_of HT_.out (by kernel_rfl)) (fun _ _ _ h => h) (Or.inl ⟨by rfl, ?_⟩) ?_ ?_
      rotate_left
      ·intro w'
       go_simp
       with_reducible rfl
      rotate_left
      ·simp only [Act.put, List.setIfInBounds_toArray, List.set_cons_zero, List.set_cons_succ, i64_w, i32_w]
       rfl
      refine pure_ (i := 12) (N := some 39) (v := ?_) (a' := ?_) bqFx57_13 rfl rfl (any_of HT_.out (by kernel_rfl)) (fun _ _ _ h => h) (Or.inl ⟨by rfl, ?_⟩) ?_ ?_
      rotate_left
      ·intro w'
       go_simp
       with_reducible rfl
      rotate_left
      ·simp only [Act.put, List.setIfInBounds_toArray, List.set_cons_zero, List.set_cons_succ, i64_w, i32_w]
       rfl
      refine pure_ (i := 13) (N := some 40) (v := ?_) (a' := ?_) bqFx57_14 rfl rfl (any_of HT_.out (by kernel_rfl)) (fun _ _ _ h => h) (Or.inl ⟨by rfl, ?_⟩) ?_ ?_
      rotate_left
      ·intro w'
       go_simp
       with_reducible rfl
      rotate_left
      ·simp only [Act.put, List.setIfInBounds_toArray, List.set_cons_zero, List.set_cons_succ, i64_w, i32_w]
       rfl
      refine pure_ (i := 14) (N := some 41) (v := undef) (a' := ?_) bqFx57_15 rfl rfl (any_of HT_.out (by kernel_rfl)) (fun _ _ _ h => h) (Or.inr ⟨by rfl, rfl⟩) ?_ ?_
      rotate_left
      ·simp only [Act.put, List.setIfInBounds_toArray, List.set_cons_zero, List.set_cons_succ, i64_w, i32_w]
       rfl
      refine pure_ (i := 15) (N := some 42) (v := undef) (a' := ?_) bqFx57_16 rfl rfl (any_of HT_.out (by kernel_rfl)) (fun _ _ _ h => h) (Or.inr ⟨by rfl, rfl⟩) ?_ ?_
      rotate_left
      ·simp only [Act.put, List.setIfInBounds_toArray, List.set_cons_zero, List.set_cons_succ, i64_w, i32_w]
       rfl
      refine pure_ (i := 16) (N := some 43) (v := undef) (a' := ?_) bqFx57_17 rfl rfl (any_of HT_.out (by kernel_rfl)) (fun _ _ _ h => h) (Or.inr ⟨by rfl, rfl⟩) ?_ ?_
      rotate_left
      ·simp only [Act.put, List.setIfInBounds_toArray, List.set_cons_zero, List.set_cons_succ, i64_w, i32_w]
       rfl
      refine pure_ (i := 17) (N := some 44) (v := undef) (a' := ?_) bqFx57_18 rfl rfl (any_of HT_.out (by kernel_rfl)) (fun _ _ _ h => h) (Or.inr ⟨by rfl, rfl⟩) ?_ ?_
      rotate_left
      ·simp only [Act.put, List.setIfInBounds_toArray, List.set_cons_zero, List.set_cons_succ, i64_w, i32_w]
       rfl
      refine pure_ (i := 18) (N := some 45) (v := undef) (a' := ?_) bqFx57_19 rfl rfl (any_of HT_.out (by kernel_rfl)) (fun _ _ _ h => h) (Or.inr ⟨by rfl, rfl⟩) ?_ ?_
      rotate_left
      ·simp only [Act.put, List.setIfInBounds_toArray, List.set_cons_zero, List.set_cons_succ, i64_w, i32_w]
       rfl
      refine pure_ (i := 19) (N := some 46) (v := undef) (a' := ?_) bqFx57_20 rfl rfl (any_of HT_.out (by kernel_rfl)) (fun _ _ _ h => h) (Or.inr ⟨by rfl, rfl⟩) ?_ ?_
      rotate_left
      ·simp only [Act.put, List.setIfInBounds_toArray, List.set_cons_zero, List.set_cons_succ, i64_w, i32_w]
       rfl
      refine pure_ (i := 20) (N := some 47) (v := undef) (a' := ?_) bqFx57_21 rfl rfl (any_of HT_.out (by kernel_rfl)) (fun _ _ _ h => h) (Or.inr ⟨by rfl, rfl⟩) ?_ ?_
      rotate_left
      ·simp only [Act.put, List.setIfInBounds_toArray, List.set_cons_zero, List.set_cons_succ, i64_w, i32_w]
       rfl
      refine pure_ (i := 21) (N := some 48) (v := undef) (a' := ?_) bqFx57_22 rfl rfl (any_of HT_.out (by kernel_rfl)) (fun _ _ _ h => h) (Or.inr ⟨by rfl, rfl⟩) ?_ ?_
      rotate_left
      ·simp only [Act.put, List.setIfInBounds_toArray, List.set_cons_zero, List.set_cons_succ, i64_w, i32_w]
       rfl
      refine pure_ (i := 22) (N := some 49) (v := undef) (a' := ?_) bqFx57_23 rfl rfl (any_of HT_.out (by kernel_rfl)) (fun _ _ _ h => h) (Or.inr ⟨by rfl, rfl⟩) ?_ ?_
      rotate_left
      ·simp only [Act.put, List.setIfInBounds_toArray, List.set_cons_zero, List.set_cons_succ, i64_w, i32_w]
       rfl
      refine pure_ (i := 23) (N := some 50) (v := undef) (a' := ?_) bqFx57_24 rfl rfl (any_of HT_.out (by kernel_rfl)) (fun _ _ _ h => h) (Or.inr ⟨by rfl, rfl⟩) ?_ ?_
      rotate_left
      ·simp only [Act.put, List.setIfInBounds_toArray, List.set_cons_zero, List.set_cons_succ, i64_w, i32_w]
       rfl
      refine pure_ (i := 24) (N := some 51) (v := undef) (a' := ?_) bqFx57_25 rfl rfl (any_of HT_.out (by kernel_rfl)) (fun _ _ _ h => h) (Or.inr ⟨by rfl, rfl⟩) ?_ ?_
      rotate_left
      ·simp only [Act.put, List.setIfInBounds_toArray, List.set_cons_zero, List.set_cons_succ, i64_w, i32_w]
       rfl
      refine pure_ (i := 25) (N := some 52) (v := undef) (a' := ?_) bqFx57_26 rfl rfl (any_of HT_.out (by kernel_rfl)) (fun _ _ _ h => h) (Or.inr ⟨by rfl, rfl⟩) ?_ ?_
      rotate_left
      ·simp only [Act.put, List.setIfInBounds_toArray, List.set_cons_zero, List.set_cons_succ, i64_w, i32_w]
       rfl
      refine pure_ (i := 26) (N := some 53) (v := undef) (a' := ?_) bqFx57_27 rfl rfl (any_of HT_.out (by kernel_rfl)) (fun _ _ _ h => h) (Or.inr ⟨by rfl, rfl⟩) ?_ ?_
      rotate_left
      ·simp only [Act.put, List.setIfInBounds_toArray, List.set_cons_zero, List.set_cons_succ, i64_w, i32_w]
       rfl
      refine pure_ (i := 27) (N := some 54) (v := undef) (a' := ?_) bqFx57_28 rfl rfl (any_of HT_.out (by kernel_rfl)) (fun _ _ _ h => h) (Or.inr ⟨by rfl, rfl⟩) ?_ ?_
      rotate_left
      ·simp only [Act.put, List.setIfInBounds_toArray, List.set_cons_zero, List.set_cons_succ, i64_w, i32_w]
       rfl
      refine pure_ (i := 28) (N := some 55) (v := undef) (a' := ?_) bqFx57_29 rfl rfl (any_of HT_.out (by kernel_rfl)) (fun _ _ _ h => h) (Or.inr ⟨by rfl, rfl⟩) ?_ ?_
      rotate_left
      ·simp only [Act.put, List.setIfInBounds_toArray, List.set_cons_zero, List.set_cons_succ, i64_w, i32_w]
       rfl
      refine pure_ (i := 29) (N := some 56) (v := ?_) (a' := ?_) bqFx57_30 rfl rfl (any_of HT_.out (by kernel_rfl)) (fun _ _ _ h => h) (Or.inl ⟨by rfl, ?_⟩) ?_ ?_
      rotate_left
      ·intro w'
       go_simp
       with_reducible rfl
      rotate_left
      ·simp only [Act.put, List.setIfInBounds_toArray, List.set_cons_zero, List.set_cons_succ, i64_w, i32_w]
       rfl
      refine done_ (done_of HT_.out (by kernel_rfl)) ?_
      try go_wp2
      go_ret
      exact ⟨by first | rfl | (simp [errW_none, errW_some] <;> rfl) | (simp [*, errW_none, errW_some] <;> rfl), by repeat (first | (with_reducible first | exact HB.out | apply below_alloc | apply pw_below_drewN | apply below_drew1 | refine below_set ?_ GE571001.out | refine below_set ?_ GE571004.out) | exact HB.out)⟩
     subst c14
     have H1 : (if x3_2 > 0 then (if 0 ≤ (wrap64 (x3_2 - 1)) then (if (wrap64 (x3_2 - 1)) < (l0_1.length : Int) then ((spec_l01Before.f k2 ((rd_T115 l0_1 (wrap64 (x3_2 - 1))).f0) ((rd_T115 l0_1 x3_2).f0)).bind fun t571008 => (if t571008 = true then (spec_l03Is.l0 k2 (wrap64 (x3_2 + 1)) a0_0 l0_1) else (some false))) else (none)) else (none)) else (spec_l03Is.l0 k2 (wrap64 (x3_2 + 1)) a0_0 l0_1)) = some r := by rw [if_pos rfl] at H; exact H
     clear H
     have H := H1
     clear H1
     by_cases c15 : x3_2 > 0
     rotate_left
     ·rw [if_neg c15] at H
      have c15b0 : decide (0 < x3_2) = false := decide_eq_false c15
      clear c15
      have H' := Aside0.mk H
      clear H
      have hcz35_0 : wr.cell? ⟨gb571001, 0, none⟩ = some (.int .i64 a0_0) := (blk_cell BK571001.out 0).trans rfl
      have hcz35_1 : wr.cell? ⟨gb571001, 1, none⟩ = some (.slice A0_1 l0_1.length c0_1) := (blk_cell BK571001.out 1).trans rfl
      have hfz35_0 := blk_frozen BK571001.out 0
      have hfz35_1 := blk_frozen BK571001.out 1
      have p571003 : 0 ≤ (x3_2 : Int) := of_decide_eq_true (by first | (with_reducible assumption) | assumption)
      have q571003 : x3_2 < (l0_1.length : Int) := of_decide_eq_true (by first | (with_reducible assumption) | assumption)
      obtain ⟨ad571003, A571003_0, c571003_0, e571003, hx571003_0, hx571003_1, hl571003_0, hi571003_0⟩ := at_T115 HR0_1.out x3_2 p571003 q571003
      cases e571003
      replace hx571003_0 := (HB.out.cell (World.block_lt_of_cell? w _ hx571003_0)).trans hx571003_0
      replace hx571003_1 := (HB.out.cell (World.block_lt_of_cell? w _ hx571003_1)).trans hx571003_1
      have HR571003_0 := Aside0.mk hi571003_0
      have HC571003_0 := Aside0.mk hl571003_0
      clear hi571003_0 hl571003_0
      replace p571003 := eq_true p571003
      replace q571003 := eq_true q571003
      try go_wp2_with (first | ((with_reducible refine gate_dst (N := 4) rfl ?_); (try (refine gate_guard (by rfl) ?_; dsimp only)); refine box_event ?hg (N := 4) ?hd (cs := #[.slice none 0 0, .int .i64 0]) (t := 115) ?hr ?_; (case hd => rfl); (case hg => rfl); (case hr => first | (go_simp; done) | (go_simp; rfl)); intro gb571004 hg w36 hbox hb; have n0_ := Aside0.mk (blk_below (g := gb571001) (o := .cells #[.int .i64 a0_0, .slice (some ad571003) l0_1.length c0_1] 46 (0, 0)) (by (with_reducible repeat (first | refine blk_drewN ?_ _ | refine blk_drew ?_ | refine blk_alloc ?_ _)); exact BK571001.out) hb); have n1_ := Aside0.mk (below_step (by repeat (first | (with_reducible first | exact HB.out | apply below_alloc | apply pw_below_drewN | apply below_drew1 | refine below_set ?_ GE571001.out) | exact HB.out)) hb); have n2_ := Aside0.mk (hbox); have n3_ := Aside0.mk ((by rw [hg]; exact (below_size (by repeat (first | (with_reducible first | exact HB.out | apply below_alloc | apply pw_below_drewN | apply below_drew1 | refine below_set ?_ GE571001.out) | exact HB.out))) : w.heap.size ≤ gb571004)); have n4_ := Aside0.mk ((by rw [hg]; exact (below_size (by repeat (first | (with_reducible first | exact HB.out | apply below_alloc | apply pw_below_drewN | apply below_drew1 | refine below_set ?_ GE571001.out) | exact HB.out))) : w.heap.size ≤ gb571004)); have n5_ := Aside0.mk ((by rw [hg]; exact Nat.ne_of_lt (blk_lt (g := gb571001) (o := .cells #[.int .i64 a0_0, .slice (some ad571003) l0_1.length c0_1] 46 (0, 0)) (by (with_reducible repeat (first | refine blk_drewN ?_ _ | refine blk_drew ?_ | refine blk_alloc ?_ _)); exact BK571001.out)) : gb571001 ≠ gb571004)); have n6_ := Aside0.mk ((by rw [hg]; exact Nat.ne_of_gt (blk_lt (g := gb571001) (o := .cells #[.int .i64 a0_0, .slice (some ad571003) l0_1.length c0_1] 46 (0, 0)) (by (with_reducible repeat (first | refine blk_drewN ?_ _ | refine blk_drew ?_ | refine blk_alloc ?_ _)); exact BK571001.out)) : gb571004 ≠ gb571001)); clear BK571001; clear HB; have BK571001 := n0_; have HB := n1_; have BK571004 := n2_; have GW571004 := n3_; have GE571004 := n4_; have NB571001_571004 := n5_; have NB571004_571001 := n6_; clear n0_ n1_ n2_ n3_ n4_ n5_ n6_; clear hb hbox hg; have hnb37 := NB571004_571001.out; have hnc37 := NB571001_571004.out; have hcz38_0 : w36.cell? ⟨gb571004, 0, none⟩ = some (.slice none 0 0) := (blk_cell BK571004.out 0).trans rfl; have hcz38_1 : w36.cell? ⟨gb571004, 1, none⟩ = some (.int .i64 0) := (blk_cell BK571004.out 1).trans rfl; have hfz38_0 := blk_frozen BK571004.out 0; have hfz38_1 := blk_frozen BK571004.out 1))
      have n0_ : Aside0 (((w36.setCell ⟨gb571004, 0, none⟩ (.slice A571003_0 ((rd_T115 l0_1 x3_2).f0).length c571003_0)).setCell ⟨gb571004, 1, none⟩ (.int .i64 ((rd_T115 l0_1 x3_2).f1))).heap[gb571001]? = some (.cells #[.int .i64 a0_0, .slice (some ad571003) l0_1.length c0_1] 46 (0, 0))) := ⟨by (with_reducible repeat (first | refine blk_drewN ?_ _ | refine blk_drew ?_ | refine blk_alloc ?_ _)); refine blk_far ?_ NB571001_571004.out _; (with_reducible repeat (first | refine blk_drewN ?_ _ | refine blk_drew ?_ | refine blk_alloc ?_ _)); refine blk_far ?_ NB571001_571004.out _; (with_reducible repeat (first | refine blk_drewN ?_ _ | refine blk_drew ?_ | refine blk_alloc ?_ _)); exact BK571001.out⟩
      have n1_ : Aside0 (((w36.setCell ⟨gb571004, 0, none⟩ (.slice A571003_0 ((rd_T115 l0_1 x3_2).f0).length c571003_0)).setCell ⟨gb571004, 1, none⟩ (.int .i64 ((rd_T115 l0_1 x3_2).f1))).heap[gb571004]? = some (.cells #[.slice A571003_0 ((rd_T115 l0_1 x3_2).f0).length c571003_0, .int .i64 ((rd_T115 l0_1 x3_2).f1)] 115 (0, 0))) := ⟨by (with_reducible repeat (first | refine blk_drewN ?_ _ | refine blk_drew ?_ | refine blk_alloc ?_ _)); refine blk_put (cs := #[.slice A571003_0 ((rd_T115 l0_1 x3_2).f0).length c571003_0, .int .i64 0]) ?_ 1 _ rfl; (with_reducible repeat (first | refine blk_drewN ?_ _ | refine blk_drew ?_ | refine blk_alloc ?_ _)); refine blk_put (cs := #[.slice none 0 0, .int .i64 0]) ?_ 0 _ rfl; (with_reducible repeat (first | refine blk_drewN ?_ _ | refine blk_drew ?_ | refine blk_alloc ?_ _)); exact BK571004.out⟩
      have n2_ : Aside0 (Below w.heap.size w ((w36.setCell ⟨gb571004, 0, none⟩ (.slice A571003_0 ((rd_T115 l0_1 x3_2).f0).length c571003_0)).setCell ⟨gb571004, 1, none⟩ (.int .i64 ((rd_T115 l0_1 x3_2).f1)))) := ⟨by repeat (first | (with_reducible first | exact HB.out | apply below_alloc | apply pw_below_drewN | apply below_drew1 | refine below_set ?_ GE571001.out | refine below_set ?_ GE571004.out) | exact HB.out)⟩
      (try clear BK571001)
      (try clear BK571004)
      (try clear HB)
      generalize ((w36.setCell ⟨gb571004, 0, none⟩ (.slice A571003_0 ((rd_T115 l0_1 x3_2).f0).length c571003_0)).setCell ⟨gb571004, 1, none⟩ (.int .i64 ((rd_T115 l0_1 x3_2).f1))) = w39 at n0_ n1_ n2_ ⊢
      have BK571001 := n0_
      have BK571004 := n1_
      have HB := n2_
      clear n0_ n1_ n2_
      have n0_ := Aside0.mk (blk_drew BK571001.out)
      have n1_ := Aside0.mk (blk_drew BK571004.out)
      have n2_ := Aside0.mk (below_drew1 HB.out)
      clear BK571001
      clear BK571004
      clear HB
      have BK571001 := n0_
      have BK571004 := n1_
      have HB := n2_
      clear n0_ n1_ n2_
      refine start_ (n := 30) (S := fun w' => w'.cell? ⟨gb571004, 0, none⟩ = some (.slice A571003_0 ((rd_T115 l0_1 x3_2).f0).length c571003_0) ∧ w'.cell? ⟨gb571004, 1, none⟩ = some (.int .i64 ((rd_T115 l0_1 x3_2).f1)) ∧ w'.cell? ⟨gb571001, 0, none⟩ = some (.int .i64 a0_0) ∧ w'.cell? ⟨gb571001, 1, none⟩ = some (.slice (some ad571003) l0_1.length c0_1)) (ds := []) bqFx57_0 (by kernel_rfl) rfl rfl ⟨(blk_cell BK571004.out 0).trans rfl, (blk_cell BK571004.out 1).trans rfl, (blk_cell BK571001.out 0).trans rfl, (blk_cell BK571001.out 1).trans rfl⟩ (fun hHeld => ?_); refine with_tabW spec_l03Is.tab7 spec_l03Is.bits7 (fun HT_ HW_ => ?_)
      generalize w39.drew = w40 at BK571001 BK571004 HB hHeld ⊢
      refine pure_ (i := 0) (N := some 27) (v := ?_) (a' := ?_) bqFx57_1 rfl rfl (any_of HT_.out (by kernel_rfl)) (fun _ _ _ h => h) (Or.inl ⟨by rfl, ?_⟩) ?_ ?_
      rotate_left
      ·intro w'
       go_simp
       with_reducible rfl
      rotate_left
      ·simp only [Act.put, List.setIfInBounds_toArray, List.set_cons_zero, List.set_cons_succ, i64_w, i32_w]
       rfl
      refine take_ (i := 1) (N := some 28) (v := ?_) (a' := ?_) bqFx57_2 rfl rfl (take_ofW HT_.out HW_.out (by kernel_rfl)) (fun _ _ _ h => h) (Or.inl ⟨by rfl, ?_⟩) hHeld ?_ ?_
      rotate_left
      ·rintro w' ⟨s0, s1, s2, s3⟩
       go_simp
       with_reducible rfl
      rotate_left
      ·simp only [Act.put, List.setIfInBounds_toArray, List.set_cons_zero, List.set_cons_succ, i64_w, i32_w]
       rfl
      refine one_ (i := 2) (N := some 29) bqFx57_3 rfl rfl (one_of HT_.out (by kernel_rfl)) (by decide) (fun K hK => ?_)
      refine goes_ Try.func56 (by kernel_rfl) rfl #[.slice A571003_0 ((rd_T115 l0_1 x3_2).f0).length c571003_0] (by rfl) rfl rfl (by (try simp only [List.map_toArray, List.map_cons, List.map_nil]); first | done | rfl | (simp only [List.length_drop, List.length_take]; rfl)) ?_
      with_reducible refine (spec_l01Is.calls k2 _ _ ((rd_T115 l0_1 x3_2).f0) true _ ?side1 ?side2 A11.out).mono ?_
      (case side1 => repeat (first | exact (Kd.C_below HR571003_0.out HB.out) | (with_reducible refine Kd.C_alloc ?_ _) | (with_reducible refine Kd.C_drewN ?_ _) | (with_reducible refine Kd.C_drew ?_)))
      (case side2 => exact HC571003_0.out)
      rintro e w41 ⟨rfl, hb⟩
      refine ⟨_, rfl, ?_⟩
      have n0_ := Aside0.mk (blk_below (g := gb571001) (o := .cells #[.int .i64 a0_0, .slice (some ad571003) l0_1.length c0_1] 46 (0, 0)) (by (with_reducible repeat (first | refine blk_drewN ?_ _ | refine blk_drew ?_ | refine blk_alloc ?_ _)); exact BK571001.out) hb)
      have n1_ := Aside0.mk (blk_below (g := gb571004) (o := .cells #[.slice A571003_0 ((rd_T115 l0_1 x3_2).f0).length c571003_0, .int .i64 ((rd_T115 l0_1 x3_2).f1)] 115 (0, 0)) (by (with_reducible repeat (first | refine blk_drewN ?_ _ | refine blk_drew ?_ | refine blk_alloc ?_ _)); exact BK571004.out) hb)
      have n2_ := Aside0.mk (below_step (by repeat (first | (with_reducible first | exact HB.out | apply below_alloc | apply pw_below_drewN | apply below_drew1 | refine below_set ?_ GE571001.out | refine below_set ?_ GE571004.out) | exact HB.out)) hb)
      clear BK571001
      clear BK571004
      clear HB
      have BK571001 := n0_
      have BK571004 := n1_
      have HB := n2_
      clear n0_ n1_ n2_
      (try clear hb)
      (try clear hb2)
      (try clear hk)
      (try clear hi)
      refine hK.out _ _ ⟨(blk_cell BK571004.out 0).trans rfl, (blk_cell BK571004.out 1).trans rfl, (blk_cell BK571001.out 0).trans rfl, (blk_cell BK571001.out 1).trans rfl⟩ (fun hHeld => ?_)
      clear hK K
      refine norm_ (a' := ?_) ?_ ?_
      rotate_left
      ·show Act.put _ (some 29) _ = _
       simp only [Act.put, List.setIfInBounds_toArray, List.set_cons_zero, List.set_cons_succ, i64_w, i32_w]
       rfl
      refine pure_ (i := 3) (N := some 30) (v := ?_) (a' := ?_) bqFx57_4 rfl rfl (any_of HT_.out (by kernel_rfl)) (fun _ _ _ h => h) (Or.inl ⟨by rfl, ?_⟩) ?_ ?_
      rotate_left
      ·intro w'
       go_simp
       with_reducible rfl
      rotate_left
      ·simp only [Act.put, List.setIfInBounds_toArray, List.set_cons_zero, List.set_cons_succ, i64_w, i32_w]
       rfl
      refine pure_ (i := 4) (N := some 31) (v := ?_) (a' := ?_) bqFx57_5 rfl rfl (any_of HT_.out (by kernel_rfl)) (fun _ _ _ h => h) (Or.inl ⟨by rfl, ?_⟩) ?_ ?_
      rotate_left
      ·intro w'
       go_simp
       with_reducible rfl
      rotate_left
      ·simp only [Act.put, List.setIfInBounds_toArray, List.set_cons_zero, List.set_cons_succ, i64_w, i32_w]
       rfl
      refine pure_ (i := 5) (N := some 32) (v := ?_) (a' := ?_) bqFx57_6 rfl rfl (any_of HT_.out (by kernel_rfl)) (fun _ _ _ h => h) (Or.inl ⟨by rfl, ?_⟩) ?_ ?_
      rotate_left
      ·intro w'
       go_simp
       with_reducible rfl
      rotate_left
      ·simp only [Act.put, List.setIfInBounds_toArray, List.set_cons_zero, List.set_cons_succ, i64_w, i32_w]
       rfl
      refine pure_ (i := 7) (N := some 34) (v := ?_) (a' := ?_) bqFx57_31 rfl rfl (any_of HT_.out (by kernel_rfl)) (fun _ _ _ h => h) (Or.inl ⟨by rfl, ?_⟩) ?_ ?_
      rotate_left
      ·intro w'
       go_simp
       with_reducible rfl
      rotate_left
      ·simp only [Act.put, List.setIfInBounds_toArray, List.set_cons_zero, List.set_cons_succ, i64_w, i32_w]
       rfl
      refine take_ (i := 6) (N := some 33) (v := ?_) (a' := ?_) bqFx57_8 rfl rfl (take_ofW HT_.out HW_.out (by kernel_rfl)) (fun _ _ _ h => h) (Or.inl ⟨by rfl, ?_⟩) hHeld ?_ ?_
      rotate_left
      ·rintro w' ⟨s0, s1, s2, s3⟩
       go_simp
       with_reducible rfl
      rotate_left
      ·simp only [Act.put, List.setIfInBounds_toArray, List.set_cons_zero, List.set_cons_succ, i64_w, i32_w]
       rfl
      refine take_ (i := 8) (N := some 35) (v := ?_) (a' := ?_) bqFx57_9 rfl rfl (take_ofW HT_.out HW_.out (by kernel_rfl)) (fun _ _ _ h => h) (Or.inl ⟨by rfl, ?_⟩) hHeld ?_ ?_
      rotate_left
      ·rintro w' ⟨s0, s1, s2, s3⟩
       go_simp
       with_reducible rfl
      rotate_left
      ·simp only [Act.put, List.setIfInBounds_toArray, List.set_cons_zero, List.set_cons_succ, i64_w, i32_w]
       rfl
      refine pure_ (i := 9) (N := some 36) (v := ?_) (a' := ?_) bqFx57_10 rfl rfl (any_of HT_.out (by kernel_rfl)) (fun _ _ _ h => h) (Or.inl ⟨by rfl, ?_⟩) ?_ ?_
      rotate_left
      ·intro w'
       go_simp
       with_reducible rfl
      rotate_left
      ·simp only [Act.put, List.setIfInBounds_toArray, List.set_cons_zero, List.set_cons_succ, i64_w, i32_w]
       rfl
      refine one_ (i := 10) (N := some 37) bqFx57_11 rfl rfl (one_of HT_.out (by kernel_rfl)) (by decide) (fun K hK => ?_)
      refine goes_ Try.func64 (by kernel_rfl) rfl #[.int .i64 ((rd_T115 l0_1 x3_2).f1), .int .i64 1, .int .i64 (wrap64 (a0_0 - 1))] (by rfl) rfl rfl (by (try simp only [List.map_toArray, List.map_cons, List.map_nil]); first | done | rfl | (simp only [List.length_drop, List.length_take]; rfl)) ?_
      with_reducible refine (spec_l01In.calls ((rd_T115 l0_1 x3_2).f1) 1 (wrap64 (a0_0 - 1)) true _ A13.out).mono ?_
      rintro e w' ⟨rfl, ⟨nd, rfl⟩⟩
      refine ⟨_, rfl, ?_⟩
      refine hK.out _ _ ⟨(blk_cell BK571004.out 0).trans rfl, (blk_cell BK571004.out 1).trans rfl, (blk_cell BK571001.out 0).trans rfl, (blk_cell BK571001.out 1).trans rfl⟩ (fun hHeld => ?_)
      clear hK K
      refine norm_ (a' := ?_) ?_ ?_
      rotate_left
      ·show Act.put _ (some 37) _ = _
       simp only [Act.put, List.setIfInBounds_toArray, List.set_cons_zero, List.set_cons_succ, i64_w, i32_w]
       rfl
      refine pure_ (i := 11) (N := some 38) (v := ?_) (a' := ?_) bqFx57_12 rfl rfl (any_of HT_.out (by kernel_rfl)) (fun _ _ _ h => h) (Or.inl ⟨by rfl, ?_⟩) ?_ ?_
      rotate_left
      ·intro w'
       go_simp
       with_reducible rfl
      rotate_left
      ·simp only [Act.put, List.setIfInBounds_toArray, List.set_cons_zero, List.set_cons_succ, i64_w, i32_w]
       rfl
      refine pure_ (i := 12) (N := some 39) (v := ?_) (a' := ?_) bqFx57_13 rfl rfl (any_of HT_.out (by kernel_rfl)) (fun _ _ _ h => h) (Or.inl ⟨by rfl, ?_⟩) ?_ ?_
      rotate_left
      ·intro w'
       go_simp
       with_reducible rfl
      rotate_left
      ·simp only [Act.put, List.setIfInBounds_toArray, List.set_cons_zero, List.set_cons_succ, i64_w, i32_w]
       rfl
      refine pure_ (i := 13) (N := some 40) (v := ?_) (a' := ?_) bqFx57_14 rfl rfl (any_of HT_.out (by kernel_rfl)) (fun _ _ _ h => h) (Or.inl ⟨by rfl, ?_⟩) ?_ ?_
      rotate_left
      ·intro w'
       go_simp
       with_reducible rfl
      rotate_left
      ·simp only [Act.put, List.setIfInBounds_toArray, List.set_cons_zero, List.set_cons_succ, i64_w, i32_w]
       rfl
      refine pure_ (i := 14) (N := some 41) (v := ?_) (a' := ?_) bqFx57_15 rfl rfl (any_of HT_.out (by kernel_rfl)) (fun _ _ _ h => h) (Or.inl ⟨by rfl, ?_⟩) ?_ ?_
      rotate_left
      ·intro w'
       go_simp
       with_reducible rfl
      rotate_left
      ·simp only [Act.put, List.setIfInBounds_toArray, List.set_cons_zero, List.set_cons_succ, i64_w, i32_w]
       rfl
      refine pure_ (i := 15) (N := some 42) (v := ?_) (a' := ?_) bqFx57_16 rfl rfl (any_of HT_.out (by kernel_rfl)) (fun _ _ _ h => h) (Or.inl ⟨by rfl, ?_⟩) ?_ ?_
      rotate_left
      ·intro w'
       go_simp
       with_reducible rfl
      rotate_left
      ·simp only [Act.put, List.setIfInBounds_toArray, List.set_cons_zero, List.set_cons_succ, i64_w, i32_w]
       rfl
      refine pure_ (i := 16) (N := some 43) (v := ?_) (a' := ?_) bqFx57_17 rfl rfl (any_of HT_.out (by kernel_rfl)) (fun _ _ _ h => h) (Or.inl ⟨by rfl, ?_⟩) ?_ ?_
      rotate_left
      ·intro w'
       go_simp
       with_reducible rfl
      rotate_left
      ·simp only [Act.put, List.setIfInBounds_toArray, List.set_cons_zero, List.set_cons_succ, i64_w, i32_w]
       rfl
      refine pure_ (i := 17) (N := some 44) (v := undef) (a' := ?_) bqFx57_18 rfl rfl (any_of HT_.out (by kernel_rfl)) (fun _ _ _ h => h) (Or.inr ⟨by rfl, rfl⟩) ?_ ?_
      rotate_left
      ·simp only [Act.put, List.setIfInBounds_toArray, List.set_cons_zero, List.set_cons_succ, i64_w, i32_w]
       rfl
      refine pure_ (i := 18) (N := some 45) (v := undef) (a' := ?_) bqFx57_19 rfl rfl (any_of HT_.out (by kernel_rfl)) (fun _ _ _ h => h) (Or.inr ⟨by rfl, rfl⟩) ?_ ?_
      rotate_left
      ·simp only [Act.put, List.setIfInBounds_toArray, List.set_cons_zero, List.set_cons_succ, i64_w, i32_w]
       rfl
      refine pure_ (i := 19) (N := some 46) (v := undef) (a' := ?_) bqFx57_20 rfl rfl (any_of HT_.out (by kernel_rfl)) (fun _ _ _ h => h) (Or.inr ⟨by rfl, rfl⟩) ?_ ?_
      rotate_left
      ·simp only [Act.put, List.setIfInBounds_toArray, List.set_cons_zero, List.set_cons_succ, i64_w, i32_w]
       rfl
      refine pure_ (i := 20) (N := some 47) (v := undef) (a' := ?_) bqFx57_21 rfl rfl (any_of HT_.out (by kernel_rfl)) (fun _ _ _ h => h) (Or.inr ⟨by rfl, rfl⟩) ?_ ?_
      rotate_left
      ·simp only [Act.put, List.setIfInBounds_toArray, List.set_cons_zero, List.set_cons_succ, i64_w, i32_w]
       rfl
      refine pure_ (i := 21) (N := some 48) (v := undef) (a' := ?_) bqFx57_22 rfl rfl (any_of HT_.out (by kernel_rfl)) (fun _ _ _ h => h) (Or.inr ⟨by rfl, rfl⟩) ?_ ?_
      rotate_left
      ·simp only [Act.put, List.setIfInBounds_toArray, List.set_cons_zero, List.set_cons_succ, i64_w, i32_w]
       rfl
      refine pure_ (i := 22) (N := some 49) (v := undef) (a' := ?_) bqFx57_23 rfl rfl (any_of HT_.out (by kernel_rfl)) (fun _ _ _ h => h) (Or.inr ⟨by rfl, rfl⟩) ?_ ?_
      rotate_left
      ·simp only [Act.put, List.setIfInBounds_toArray, List.set_cons_zero, List.set_cons_succ, i64_w, i32_w]
       rfl
      refine pure_ (i := 23) (N := some 50) (v := undef) (a' := ?_) bqFx57_24 rfl rfl (any_of HT_.out (by kernel_rfl)) (fun _ _ _ h => h) (Or.inr ⟨by rfl, rfl⟩) ?_ ?_
      rotate_left
      ·simp only [Act.put, List.setIfInBounds_toArray, List.set_cons_zero, List.set_cons_succ, i64_w, i32_w]
       rfl
      refine pure_ (i := 24) (N := some 51) (v := undef) (a' := ?_) bqFx57_25 rfl rfl (any_of HT_.out (by kernel_rfl)) (fun _ _ _ h => h) (Or.inr ⟨by rfl, rfl⟩) ?_ ?_
      rotate_left
      ·simp only [Act.put, List.setIfInBounds_toArray, List.set_cons_zero, List.set_cons_succ, i64_w, i32_w]
       rfl
      refine pure_ (i := 25) (N := some 52) (v := undef) (a' := ?_) bqFx57_26 rfl rfl (any_of HT_.out (by kernel_rfl)) (fun _ _ _ h => h) (Or.inr ⟨by rfl, rfl⟩) ?_ ?_
      rotate_left
      ·simp only [Act.put, List.setIfInBounds_toArray, List.set_cons_zero, List.set_cons_succ, i64_w, i32_w]
       rfl
      refine pure_ (i := 26) (N := some 53) (v := undef) (a' := ?_) bqFx57_27 rfl rfl (any_of HT_.out (by kernel_rfl)) (fun _ _ _ h => h) (Or.inr ⟨by rfl, rfl⟩) ?_ ?_
      rotate_left
      ·simp only [Act.put, List.setIfInBounds_toArray, List.set_cons_zero, List.set_cons_succ, i64_w, i32_w]
       rfl
      refine pure_ (i := 27) (N := some 54) (v := undef) (a' := ?_) bqFx57_28 rfl rfl (any_of HT_.out (by kernel_rfl)) (fun _ _ _ h => h) (Or.inr ⟨by rfl, rfl⟩) ?_ ?_
      rotate_left
      ·simp only [Act.put, List.setIfInBounds_toArray, List.set_cons_zero, List.set_cons_succ, i64_w, i32_w]
       rfl
      refine pure_ (i := 28) (N := some 55) (v := ?_) (a' := ?_) bqFx57_29 rfl rfl (any_of HT_.out (by kernel_rfl)) (fun _ _ _ h => h) (Or.inl ⟨by rfl, ?_⟩) ?_ ?_
      rotate_left
      ·intro w'
       go_simp
       with_reducible rfl
      rotate_left
      ·simp only [Act.put, List.setIfInBounds_toArray, List.set_cons_zero, List.set_cons_succ, i64_w, i32_w]
       rfl
      refine pure_ (i := 29) (N := some 56) (v := ?_) (a' := ?_) bqFx57_30 rfl rfl (any_of HT_.out (by kernel_rfl)) (fun _ _ _ h => h) (Or.inl ⟨by rfl, ?_⟩) ?_ ?_
      rotate_left
      ·intro w'
       go_simp
       with_reducible rfl
      rotate_left
      ·simp only [Act.put, List.setIfInBounds_toArray, List.set_cons_zero, List.set_cons_succ, i64_w, i32_w]
       rfl
      refine done_ (done_of HT_.out (by kernel_rfl)) ?_
      try go_wp2
      go_roundg k2
      case measure => have := HJ1.out; have := HK2.out; omega
      case rel => exact ⟨(wrap64 (x3_2 + 1)), (by first | rfl | (simp; done) | (simp [*]; done)), H', ⟨by have := HJ1.out; have := HK2.out; omega⟩, ⟨by (with_reducible repeat (first | refine blk_drewN ?_ _ | refine blk_drew ?_ | refine blk_alloc ?_ _)); exact BK571001.out⟩, ⟨by repeat (first | (with_reducible first | exact HB.out | apply below_alloc | apply pw_below_drewN | apply below_drew1 | refine below_set ?_ GE571001.out | refine below_set ?_ GE571004.out) | exact HB.out)⟩⟩
     rw [if_pos c15] at H
     have c15b0 : decide (0 < x3_2) = true := decide_eq_true c15
     clear c15
     obtain ⟨ji16, hji16⟩ : ∃ j_ : Int, (wrap64 (x3_2 - 1)) = j_ := ⟨_, rfl⟩
     replace H : (if 0 ≤ (ji16) then (if (ji16) < (l0_1.length : Int) then ((spec_l01Before.f k2 ((rd_T115 l0_1 (ji16)).f0) ((rd_T115 l0_1 x3_2).f0)).bind fun t571008 => (if t571008 = true then (spec_l03Is.l0 k2 (wrap64 (x3_2 + 1)) a0_0 l0_1) else (some false))) else (none)) else (none)) = some r := by first | (rw [hji16] at H; exact H) | (simp only [hji16] at H ⊢; exact H)
     (try rw [hji16] at A11)
     (try rw [hji16] at A13)
     have hji16w : (IntKind.i64.wrap (x3_2 - 1)) = ji16 := (i64_w _).trans hji16
     by_cases c17 : 0 ≤ (ji16)
     rotate_left
     ·rw [if_neg c17] at H
      exact absurd H (by simp)
     rw [if_pos c17] at H
     have c17b0 : decide (0 ≤ (ji16)) = true := decide_eq_true c17
     clear c17
     by_cases c18 : (ji16) < (l0_1.length : Int)
     rotate_left
     ·rw [if_neg c18] at H
      exact absurd H (by simp)
     rw [if_pos c18] at H
     have c18b0 : decide ((ji16) < (l0_1.length : Int)) = true := decide_eq_true c18
     clear c18
     replace H := Option.bind_eq_some_iff.mp H
     obtain ⟨t571008, A190, H⟩ := H
     replace H : (if t571008 = true then (spec_l03Is.l0 k2 (wrap64 (x3_2 + 1)) a0_0 l0_1) else (some false)) = some r := H
     have A19 := Aside0.mk A190
     clear A190
     by_cases c20 : t571008 = true
     rotate_left
     ·replace c20 := Bool.eq_false_iff.mpr c20
      subst c20
      have H1 : (some false) = some r := by rw [if_neg (show ¬ (false = true) by decide)] at H; exact H
      clear H
      have H := H1
      clear H1
      obtain rfl := Option.some.inj H
      have hcz28_0 : wr.cell? ⟨gb571001, 0, none⟩ = some (.int .i64 a0_0) := (blk_cell BK571001.out 0).trans rfl
      have hcz28_1 : wr.cell? ⟨gb571001, 1, none⟩ = some (.slice A0_1 l0_1.length c0_1) := (blk_cell BK571001.out 1).trans rfl
      have hfz28_0 := blk_frozen BK571001.out 0
      have hfz28_1 := blk_frozen BK571001.out 1
      have p571003 : 0 ≤ (x3_2 : Int) := of_decide_eq_true (by first | (with_reducible assumption) | assumption)
      have q571003 : x3_2 < (l0_1.length : Int) := of_decide_eq_true (by first | (with_reducible assumption) | assumption)
      obtain ⟨ad571003, A571003_0, c571003_0, e571003, hx571003_0, hx571003_1, hl571003_0, hi571003_0⟩ := at_T115 HR0_1.out x3_2 p571003 q571003
      cases e571003
      replace hx571003_0 := (HB.out.cell (World.block_lt_of_cell? w _ hx571003_0)).trans hx571003_0
      replace hx571003_1 := (HB.out.cell (World.block_lt_of_cell? w _ hx571003_1)).trans hx571003_1
      have HR571003_0 := Aside0.mk hi571003_0
      have HC571003_0 := Aside0.mk hl571003_0
      clear hi571003_0 hl571003_0
      replace p571003 := eq_true p571003
      replace q571003 := eq_true q571003
      try go_wp2_with (first | ((with_reducible refine gate_dst (N := 4) rfl ?_); (try (refine gate_guard (by rfl) ?_; dsimp only)); refine box_event ?hg (N := 4) ?hd (cs := #[.slice none 0 0, .int .i64 0]) (t := 115) ?hr ?_; (case hd => rfl); (case hg => rfl); (case hr => first | (go_simp; done) | (go_simp; rfl)); intro gb571004 hg w29 hbox hb; have n0_ := Aside0.mk (blk_below (g := gb571001) (o := .cells #[.int .i64 a0_0, .slice (some ad571003) l0_1.length c0_1] 46 (0, 0)) (by (with_reducible repeat (first | refine blk_drewN ?_ _ | refine blk_drew ?_ | refine blk_alloc ?_ _)); exact BK571001.out) hb); have n1_ := Aside0.mk (below_step (by repeat (first | (with_reducible first | exact HB.out | apply below_alloc | apply pw_below_drewN | apply below_drew1 | refine below_set ?_ GE571001.out) | exact HB.out)) hb); have n2_ := Aside0.mk (hbox); have n3_ := Aside0.mk ((by rw [hg]; exact (below_size (by repeat (first | (with_reducible first | exact HB.out | apply below_alloc | apply pw_below_drewN | apply below_drew1 | refine below_set ?_ GE571001.out) | exact HB.out))) : w.heap.size ≤ gb571004)); have n4_ := Aside0.mk ((by rw [hg]; exact (below_size (by repeat (first | (with_reducible first | exact HB.out | apply below_alloc | apply pw_below_drewN | apply below_drew1 | refine below_set ?_ GE571001.out) | exact HB.out))) : w.heap.size ≤ gb571004)); have n5_ := Aside0.mk ((by rw [hg]; exact Nat.ne_of_lt (blk_lt (g := gb571001) (o := .cells #[.int .i64 a0_0, .slice (some ad571003) l0_1.length c0_1] 46 (0, 0)) (by (with_reducible repeat (first | refine blk_drewN ?_ _ | refine blk_drew ?_ | refine blk_alloc ?_ _)); exact BK571001.out)) : gb571001 ≠ gb571004)); have n6_ := Aside0.mk ((by rw [hg]; exact Nat.ne_of_gt (blk_lt (g := gb571001) (o := .cells #[.int .i64 a0_0, .slice (some ad571003) l0_1.length c0_1] 46 (0, 0)) (by (with_reducible repeat (first | refine blk_drewN ?_ _ | refine blk_drew ?_ | refine blk_alloc ?_ _)); exact BK571001.out)) : gb571004 ≠ gb571001)); clear BK571001; clear HB; have BK571001 := n0_; have HB := n1_; have BK571004 := n2_; have GW571004 := n3_; have GE571004 := n4_; have NB571001_571004 := n5_; have NB571004_571001 := n6_; clear n0_ n1_ n2_ n3_ n4_ n5_ n6_; clear hb hbox hg; have hnb30 := NB571004_571001.out; have hnc30 := NB571001_571004.out; have hcz31_0 : w29.cell? ⟨gb571004, 0, none⟩ = some (.slice none 0 0) := (blk_cell BK571004.out 0).trans rfl; have hcz31_1 : w29.cell? ⟨gb571004, 1, none⟩ = some (.int .i64 0) := (blk_cell BK571004.out 1).trans rfl; have hfz31_0 := blk_frozen BK571004.out 0; have hfz31_1 := blk_frozen BK571004.out 1))
      have n0_ : Aside0 (((w29.setCell ⟨gb571004, 0, none⟩ (.slice A571003_0 ((rd_T115 l0_1 x3_2).f0).length c571003_0)).setCell ⟨gb571004, 1, none⟩ (.int .i64 ((rd_T115 l0_1 x3_2).f1))).heap[gb571001]? = some (.cells #[.int .i64 a0_0, .slice (some ad571003) l0_1.length c0_1] 46 (0, 0))) := ⟨by (with_reducible repeat (first | refine blk_drewN ?_ _ | refine blk_drew ?_ | refine blk_alloc ?_ _)); refine blk_far ?_ NB571001_571004.out _; (with_reducible repeat (first | refine blk_drewN ?_ _ | refine blk_drew ?_ | refine blk_alloc ?_ _)); refine blk_far ?_ NB571001_571004.out _; (with_reducible repeat (first | refine blk_drewN ?_ _ | refine blk_drew ?_ | refine blk_alloc ?_ _)); exact BK571001.out⟩
      have n1_ : Aside0 (((w29.setCell ⟨gb571004, 0, none⟩ (.slice A571003_0 ((rd_T115 l0_1 x3_2).f0).length c571003_0)).setCell ⟨gb571004, 1, none⟩ (.int .i64 ((rd_T115 l0_1 x3_2).f1))).heap[gb571004]? = some (.cells #[.slice A571003_0 ((rd_T115 l0_1 x3_2).f0).length c571003_0, .int .i64 ((rd_T115 l0_1 x3_2).f1)] 115 (0, 0))) := ⟨by (with_reducible repeat (first | refine blk_drewN ?_ _ | refine blk_drew ?_ | refine blk_alloc ?_ _)); refine blk_put (cs := #[.slice A571003_0 ((rd_T115 l0_1 x3_2).f0).length c571003_0, .int .i64 0]) ?_ 1 _ rfl; (with_reducible repeat (first | refine blk_drewN ?_ _ | refine blk_drew ?_ | refine blk_alloc ?_ _)); refine blk_put (cs := #[.slice none 0 0, .int .i64 0]) ?_ 0 _ rfl; (with_reducible repeat (first | refine blk_drewN ?_ _ | refine blk_drew ?_ | refine blk_alloc ?_ _)); exact BK571004.out⟩
      have n2_ : Aside0 (Below w.heap.size w ((w29.setCell ⟨gb571004, 0, none⟩ (.slice A571003_0 ((rd_T115 l0_1 x3_2).f0).length c571003_0)).setCell ⟨gb571004, 1, none⟩ (.int .i64 ((rd_T115 l0_1 x3_2).f1)))) := ⟨by repeat (first | (with_reducible first | exact HB.out | apply below_alloc | apply pw_below_drewN | apply below_drew1 | refine below_set ?_ GE571001.out | refine below_set ?_ GE571004.out) | exact HB.out)⟩
      (try clear BK571001)
      (try clear BK571004)
      (try clear HB)
      generalize ((w29.setCell ⟨gb571004, 0, none⟩ (.slice A571003_0 ((rd_T115 l0_1 x3_2).f0).length c571003_0)).setCell ⟨gb571004, 1, none⟩ (.int .i64 ((rd_T115 l0_1 x3_2).f1))) = w32 at n0_ n1_ n2_ ⊢
      have BK571001 := n0_
      have BK571004 := n1_
      have HB := n2_
      clear n0_ n1_ n2_
      have n0_ := Aside0.mk (blk_drew BK571001.out)
      have n1_ := Aside0.mk (blk_drew BK571004.out)
      have n2_ := Aside0.mk (below_drew1 HB.out)
      clear BK571001
      clear BK571004
      clear HB
      have BK571001 := n0_
      have BK571004 := n1_
      have HB := n2_
      clear n0_ n1_ n2_
      have p571007 : 0 ≤ ((ji16) : Int) := of_decide_eq_true (by first | (with_reducible assumption) | assumption)
      have q571007 : (ji16) < (l0_1.length : Int) := of_decide_eq_true (by first | (with_reducible assumption) | assumption)
      obtain ⟨ad571007, A571007_0, c571007_0, e571007, hx571007_0, hx571007_1, hl571007_0, hi571007_0⟩ := at_T115 HR0_1.out (ji16) p571007 q571007
      have hw571007_1 := hx571007_1
      have hw571007_0 := hx571007_0
      obtain rfl : ad571003 = ad571007 := (by injection e571007)
      replace hx571007_0 := (HB.out.cell (World.block_lt_of_cell? w _ hx571007_0)).trans hx571007_0
      replace hx571007_1 := (HB.out.cell (World.block_lt_of_cell? w _ hx571007_1)).trans hx571007_1
      have HR571007_0 := Aside0.mk hi571007_0
      have HC571007_0 := Aside0.mk hl571007_0
      clear hi571007_0 hl571007_0
      replace p571007 := eq_true p571007
      replace q571007 := eq_true q571007
      refine start_ (n := 30) (S := fun w' => w'.cell? ⟨gb571004, 0, none⟩ = some (.slice A571003_0 ((rd_T115 l0_1 x3_2).f0).length c571003_0) ∧ w'.cell? ⟨gb571004, 1, none⟩ = some (.int .i64 ((rd_T115 l0_1 x3_2).f1)) ∧ w'.cell? ⟨gb571001, 0, none⟩ = some (.int .i64 a0_0) ∧ w'.cell? ⟨gb571001, 1, none⟩ = some (.slice (some ad571003) l0_1.length c0_1) ∧ w'.cell? (ad571003.add (((ji16)).toNat * 2)) = some (.slice A571007_0 ((rd_T115 l0_1 (ji16)).f0).length c571007_0) ∧ w'.cell? ⟨(ad571003.add (((ji16)).toNat * 2)).block, (ad571003.add (((ji16)).toNat * 2)).off + 1, none⟩ = some (.int .i64 ((rd_T115 l0_1 (ji16)).f1))) (ds := []) bqFx57_0 (by kernel_rfl) rfl rfl ⟨(blk_cell BK571004.out 0).trans rfl, (blk_cell BK571004.out 1).trans rfl, (blk_cell BK571001.out 0).trans rfl, (blk_cell BK571001.out 1).trans rfl, ((HB.out.cell (World.block_lt_of_cell? w _ hw571007_0)).trans hw571007_0), ((HB.out.cell (World.block_lt_of_cell? w _ hw571007_1)).trans hw571007_1)⟩ (fun hHeld => ?_); refine with_tabW spec_l03Is.tab7 spec_l03Is.bits7 (fun HT_ HW_ => ?_)
      generalize w32.drew = w33 at BK571001 BK571004 HB HR571007_0 hx571007_0 hx571007_1 hHeld ⊢
      refine pure_ (i := 0) (N := some 27) (v := ?_) (a' := ?_) bqFx57_1 rfl rfl (any_of HT_.out (by kernel_rfl)) (fun _ _ _ h => h) (Or.inl ⟨by rfl, ?_⟩) ?_ ?_
      rotate_left
      ·intro w'
       go_simp
       with_reducible rfl
      rotate_left
      ·simp only [Act.put, List.setIfInBounds_toArray, List.set_cons_zero, List.set_cons_succ, i64_w, i32_w]
       rfl
      refine take_ (i := 1) (N := some 28) (v := ?_) (a' := ?_) bqFx57_2 rfl rfl (take_ofW HT_.out HW_.out (by kernel_rfl)) (fun _ _ _ h => h) (Or.inl ⟨by rfl, ?_⟩) hHeld ?_ ?_
      rotate_left
      ·rintro w' ⟨s0, s1, s2, s3, s4, s5⟩
       go_simp
       with_reducible rfl
      rotate_left
      ·simp only [Act.put, List.setIfInBounds_toArray, List.set_cons_zero, List.set_cons_succ, i64_w, i32_w]
       rfl
      refine one_ (i := 2) (N := some 29) bqFx57_3 rfl rfl (one_of HT_.out (by kernel_rfl)) (by decide) (fun K hK => ?_)
      refine goes_ Try.func56 (by kernel_rfl) rfl #[.slice A571003_0 ((rd_T115 l0_1 x3_2).f0).length c571003_0] (by rfl) rfl rfl (by (try simp only [List.map_toArray, List.map_cons, List.map_nil]); first | done | rfl | (simp only [List.length_drop, List.length_take]; rfl)) ?_
      with_reducible refine (spec_l01Is.calls k2 _ _ ((rd_T115 l0_1 x3_2).f0) true _ ?side1 ?side2 A11.out).mono ?_
      (case side1 => repeat (first | exact (Kd.C_below HR571003_0.out HB.out) | (with_reducible refine Kd.C_alloc ?_ _) | (with_reducible refine Kd.C_drewN ?_ _) | (with_reducible refine Kd.C_drew ?_)))
      (case side2 => exact HC571003_0.out)
      rintro e w34 ⟨rfl, hb⟩
      refine ⟨_, rfl, ?_⟩
      have n0_ := Aside0.mk (blk_below (g := gb571001) (o := .cells #[.int .i64 a0_0, .slice (some ad571003) l0_1.length c0_1] 46 (0, 0)) (by (with_reducible repeat (first | refine blk_drewN ?_ _ | refine blk_drew ?_ | refine blk_alloc ?_ _)); exact BK571001.out) hb)
      have n1_ := Aside0.mk (blk_below (g := gb571004) (o := .cells #[.slice A571003_0 ((rd_T115 l0_1 x3_2).f0).length c571003_0, .int .i64 ((rd_T115 l0_1 x3_2).f1)] 115 (0, 0)) (by (with_reducible repeat (first | refine blk_drewN ?_ _ | refine blk_drew ?_ | refine blk_alloc ?_ _)); exact BK571004.out) hb)
      have n2_ := Aside0.mk (below_step (by repeat (first | (with_reducible first | exact HB.out | apply below_alloc | apply pw_below_drewN | apply below_drew1 | refine below_set ?_ GE571001.out | refine below_set ?_ GE571004.out) | exact HB.out)) hb)
      clear BK571001
      clear BK571004
      clear HB
      have BK571001 := n0_
      have BK571004 := n1_
      have HB := n2_
      clear n0_ n1_ n2_
      (try clear hb)
      (try clear hb2)
      (try clear hk)
      (try clear hi)
      refine hK.out _ _ ⟨(blk_cell BK571004.out 0).trans rfl, (blk_cell BK571004.out 1).trans rfl, (blk_cell BK571001.out 0).trans rfl, (blk_cell BK571001.out 1).trans rfl, ((HB.out.cell (World.block_lt_of_cell? w _ hw571007_0)).trans hw571007_0), ((HB.out.cell (World.block_lt_of_cell? w _ hw571007_1)).trans hw571007_1)⟩ (fun hHeld => ?_)
      clear hK K
      refine norm_ (a' := ?_) ?_ ?_
      rotate_left
      ·show Act.put _ (some 29) _ = _
       simp only [Act.put, List.setIfInBounds_toArray, List.set_cons_zero, List.set_cons_succ, i64_w, i32_w]
       rfl
      refine pure_ (i := 3) (N := some 30) (v := ?_) (a' := ?_) bqFx57_4 rfl rfl (any_of HT_.out (by kernel_rfl)) (fun _ _ _ h => h) (Or.inl ⟨by rfl, ?_⟩) ?_ ?_
      rotate_left
      ·intro w'
       go_simp
       with_reducible rfl
      rotate_left
      ·simp only [Act.put, List.setIfInBounds_toArray, List.set_cons_zero, List.set_cons_succ, i64_w, i32_w]
       rfl
      refine pure_ (i := 4) (N := some 31) (v := ?_) (a' := ?_) bqFx57_5 rfl rfl (any_of HT_.out (by kernel_rfl)) (fun _ _ _ h => h) (Or.inl ⟨by rfl, ?_⟩) ?_ ?_
      rotate_left
      ·intro w'
       go_simp
       with_reducible rfl
      rotate_left
      ·simp only [Act.put, List.setIfInBounds_toArray, List.set_cons_zero, List.set_cons_succ, i64_w, i32_w]
       rfl
      refine pure_ (i := 5) (N := some 32) (v := ?_) (a' := ?_) bqFx57_6 rfl rfl (any_of HT_.out (by kernel_rfl)) (fun _ _ _ h => h) (Or.inl ⟨by rfl, ?_⟩) ?_ ?_
      rotate_left
      ·intro w'
       go_simp
       with_reducible rfl
      rotate_left
      ·simp only [Act.put, List.setIfInBounds_toArray, List.set_cons_zero, List.set_cons_succ, i64_w, i32_w]
       rfl
      refine pure_ (i := 7) (N := some 34) (v := ?_) (a' := ?_) bqFx57_31 rfl rfl (any_of HT_.out (by kernel_rfl)) (fun _ _ _ h => h) (Or.inl ⟨by rfl, ?_⟩) ?_ ?_
      rotate_left
      ·intro w'
       go_simp
       with_reducible rfl
      rotate_left
      ·simp only [Act.put, List.setIfInBounds_toArray, List.set_cons_zero, List.set_cons_succ, i64_w, i32_w]
       rfl
      refine take_ (i := 6) (N := some 33) (v := ?_) (a' := ?_) bqFx57_8 rfl rfl (take_ofW HT_.out HW_.out (by kernel_rfl)) (fun _ _ _ h => h) (Or.inl ⟨by rfl, ?_⟩) hHeld ?_ ?_
      rotate_left
      ·rintro w' ⟨s0, s1, s2, s3, s4, s5⟩
       go_simp
       with_reducible rfl
      rotate_left
      ·simp only [Act.put, List.setIfInBounds_toArray, List.set_cons_zero, List.set_cons_succ, i64_w, i32_w]
       rfl
      refine take_ (i := 8) (N := some 35) (v := ?_) (a' := ?_) bqFx57_9 rfl rfl (take_ofW HT_.out HW_.out (by kernel_rfl)) (fun _ _ _ h => h) (Or.inl ⟨by rfl, ?_⟩) hHeld ?_ ?_
      rotate_left
      ·rintro w' ⟨s0, s1, s2, s3, s4, s5⟩
       go_simp
       with_reducible rfl
      rotate_left
      ·simp only [Act.put, List.setIfInBounds_toArray, List.set_cons_zero, List.set_cons_succ, i64_w, i32_w]
       rfl
      refine pure_ (i := 9) (N := some 36) (v := ?_) (a' := ?_) bqFx57_10 rfl rfl (any_of HT_.out (by kernel_rfl)) (fun _ _ _ h => h) (Or.inl ⟨by rfl, ?_⟩) ?_ ?_
      rotate_left
      ·intro w'
       go_simp
       with_reducible rfl
      rotate_left
      ·simp only [Act.put, List.setIfInBounds_toArray, List.set_cons_zero, List.set_cons_succ, i64_w, i32_w]
       rfl
      refine one_ (i := 10) (N := some 37) bqFx57_11 rfl rfl (one_of HT_.out (by kernel_rfl)) (by decide) (fun K hK => ?_)
      refine goes_ Try.func64 (by kernel_rfl) rfl #[.int .i64 ((rd_T115 l0_1 x3_2).f1), .int .i64 1, .int .i64 (wrap64 (a0_0 - 1))] (by rfl) rfl rfl (by (try simp only [List.map_toArray, List.map_cons, List.map_nil]); first | done | rfl | (simp only [List.length_drop, List.length_take]; rfl)) ?_
      with_reducible refine (spec_l01In.calls ((rd_T115 l0_1 x3_2).f1) 1 (wrap64 (a0_0 - 1)) true _ A13.out).mono ?_
      rintro e w' ⟨rfl, ⟨nd, rfl⟩⟩
      refine ⟨_, rfl, ?_⟩
      refine hK.out _ _ ⟨(blk_cell BK571004.out 0).trans rfl, (blk_cell BK571004.out 1).trans rfl, (blk_cell BK571001.out 0).trans rfl, (blk_cell BK571001.out 1).trans rfl, ((HB.out.cell (World.block_lt_of_cell? w _ hw571007_0)).trans hw571007_0), ((HB.out.cell (World.block_lt_of_cell? w _ hw571007_1)).trans hw571007_1)⟩ (fun hHeld => ?_)
      clear hK K
      refine norm_ (a' := ?_) ?_ ?_
      rotate_left
      ·show Act.put _ (some 37) _ = _
       simp only [Act.put, List.setIfInBounds_toArray, List.set_cons_zero, List.set_cons_succ, i64_w, i32_w]
       rfl
      refine pure_ (i := 11) (N := some 38) (v := ?_) (a' := ?_) bqFx57_12 rfl rfl (any_of HT_.out (by kernel_rfl)) (fun _ _ _ h => h) (Or.inl ⟨by rfl, ?_⟩) ?_ ?_
      rotate_left
      ·intro w'
       go_simp
       with_reducible rfl
      rotate_left
      ·simp only [Act.put, List.setIfInBounds_toArray, List.set_cons_zero, List.set_cons_succ, i64_w, i32_w]
       rfl
      refine pure_ (i := 12) (N := some 39) (v := ?_) (a' := ?_) bqFx57_13 rfl rfl (any_of HT_.out (by kernel_rfl)) (fun _ _ _ h => h) (Or.inl ⟨by rfl, ?_⟩) ?_ ?_
      rotate_left
      ·intro w'
       go_simp
       with_reducible rfl
      rotate_left
      ·simp only [Act.put, List.setIfInBounds_toArray, List.set_cons_zero, List.set_cons_succ, i64_w, i32_w]
       rfl
      refine pure_ (i := 13) (N := some 40) (v := ?_) (a' := ?_) bqFx57_14 rfl rfl (any_of HT_.out (by kernel_rfl)) (fun _ _ _ h => h) (Or.inl ⟨by rfl, ?_⟩) ?_ ?_
      rotate_left
      ·intro w'
       go_simp
       with_reducible rfl
      rotate_left
      ·simp only [Act.put, List.setIfInBounds_toArray, List.set_cons_zero, List.set_cons_succ, i64_w, i32_w]
       rfl
      refine pure_ (i := 14) (N := some 41) (v := ?_) (a' := ?_) bqFx57_15 rfl rfl (any_of HT_.out (by kernel_rfl)) (fun _ _ _ h => h) (Or.inl ⟨by rfl, ?_⟩) ?_ ?_
      rotate_left
      ·intro w'
       go_simp
       with_reducible rfl
      rotate_left
      ·simp only [Act.put, List.setIfInBounds_toArray, List.set_cons_zero, List.set_cons_succ, i64_w, i32_w]
       rfl
      refine pure_ (i := 15) (N := some 42) (v := ?_) (a' := ?_) bqFx57_16 rfl rfl (any_of HT_.out (by kernel_rfl)) (fun _ _ _ h => h) (Or.inl ⟨by rfl, ?_⟩) ?_ ?_
      rotate_left
      ·intro w'
       go_simp
       with_reducible rfl
      rotate_left
      ·simp only [Act.put, List.setIfInBounds_toArray, List.set_cons_zero, List.set_cons_succ, i64_w, i32_w]
       rfl
      refine pure_ (i := 16) (N := some 43) (v := ?_) (a' := ?_) bqFx57_17 rfl rfl (any_of HT_.out (by kernel_rfl)) (fun _ _ _ h => h) (Or.inl ⟨by rfl, ?_⟩) ?_ ?_
      rotate_left
      ·intro w'
       go_simp
       with_reducible rfl
      rotate_left
      ·simp only [Act.put, List.setIfInBounds_toArray, List.set_cons_zero, List.set_cons_succ, i64_w, i32_w]
       rfl
      refine pure_ (i := 17) (N := some 44) (v := ?_) (a' := ?_) bqFx57_18 rfl rfl (any_of HT_.out (by kernel_rfl)) (fun _ _ _ h => h) (Or.inl ⟨by rfl, ?_⟩) ?_ ?_
      rotate_left
      ·intro w'
       go_simp
       with_reducible rfl
      rotate_left
      ·simp only [Act.put, List.setIfInBounds_toArray, List.set_cons_zero, List.set_cons_succ, i64_w, i32_w]
       rfl
      refine pure_ (i := 19) (N := some 46) (v := ?_) (a' := ?_) bqFx57_32 rfl rfl (any_of HT_.out (by kernel_rfl)) (fun _ _ _ h => h) (Or.inl ⟨by rfl, ?_⟩) ?_ ?_
      rotate_left
      ·intro w'
       go_simp
       with_reducible rfl
      rotate_left
      ·simp only [Act.put, List.setIfInBounds_toArray, List.set_cons_zero, List.set_cons_succ, i64_w, i32_w]
       rfl
      refine pure_ (i := 20) (N := some 47) (v := ?_) (a' := ?_) bqFx57_33 rfl rfl (any_of HT_.out (by kernel_rfl)) (fun _ _ _ h => h) (Or.inl ⟨by rfl, ?_⟩) ?_ ?_
      rotate_left
      ·intro w'
       go_simp
       with_reducible rfl
      rotate_left
      ·simp only [Act.put, List.setIfInBounds_toArray, List.set_cons_zero, List.set_cons_succ, i64_w, i32_w]
       rfl
      refine pure_ (i := 24) (N := some 51) (v := ?_) (a' := ?_) bqFx57_34 rfl rfl (any_of HT_.out (by kernel_rfl)) (fun _ _ _ h => h) (Or.inl ⟨by rfl, ?_⟩) ?_ ?_
      rotate_left
      ·intro w'
       go_simp
       with_reducible rfl
      rotate_left
      ·simp only [Act.put, List.setIfInBounds_toArray, List.set_cons_zero, List.set_cons_succ, i64_w, i32_w]
       rfl
      refine take_ (i := 18) (N := some 45) (v := ?_) (a' := ?_) bqFx57_35 rfl rfl (take_ofW HT_.out HW_.out (by kernel_rfl)) (fun _ _ _ h => h) (Or.inl ⟨by rfl, ?_⟩) hHeld ?_ ?_
      rotate_left
      ·rintro w' ⟨s0, s1, s2, s3, s4, s5⟩
       go_simp
       with_reducible rfl
      rotate_left
      ·simp only [Act.put, List.setIfInBounds_toArray, List.set_cons_zero, List.set_cons_succ, i64_w, i32_w]
       rfl
      refine pure_ (i := 21) (N := some 48) (v := ?_) (a' := ?_) bqFx57_36 rfl rfl (any_of HT_.out (by kernel_rfl)) (fun _ _ _ h => h) (Or.inl ⟨by rfl, ?_⟩) ?_ ?_
      rotate_left
      ·intro w'
       go_simp
       with_reducible rfl
      rotate_left
      ·simp only [Act.put, List.setIfInBounds_toArray, List.set_cons_zero, List.set_cons_succ, i64_w, i32_w]
       rfl
      refine pure_ (i := 22) (N := some 49) (v := ?_) (a' := ?_) bqFx57_37 rfl rfl (any_of HT_.out (by kernel_rfl)) (fun _ _ _ h => h) (Or.inl ⟨by rfl, ?_⟩) ?_ ?_
      rotate_left
      ·intro w'
       go_simp
       with_reducible rfl
      rotate_left
      ·simp only [Act.put, List.setIfInBounds_toArray, List.set_cons_zero, List.set_cons_succ, i64_w, i32_w]
       rfl
      refine take_ (i := 23) (N := some 50) (v := ?_) (a' := ?_) bqFx57_25 rfl rfl (take_ofW HT_.out HW_.out (by kernel_rfl)) (fun _ _ _ h => h) (Or.inl ⟨by rfl, ?_⟩) hHeld ?_ ?_
      rotate_left
      ·rintro w' ⟨s0, s1, s2, s3, s4, s5⟩
       go_simp
       with_reducible rfl
      rotate_left
      ·simp only [Act.put, List.setIfInBounds_toArray, List.set_cons_zero, List.set_cons_succ, i64_w, i32_w]
       rfl
      refine take_ (i := 25) (N := some 52) (v := ?_) (a' := ?_) bqFx57_26 rfl rfl (take_ofW HT_.out HW_.out (by kernel_rfl)) (fun _ _ _ h => h) (Or.inl ⟨by rfl, ?_⟩) hHeld ?_ ?_
      rotate_left
      ·rintro w' ⟨s0, s1, s2, s3, s4, s5⟩
       go_simp
       with_reducible rfl
      rotate_left
      ·simp only [Act.put, List.setIfInBounds_toArray, List.set_cons_zero, List.set_cons_succ, i64_w, i32_w]
       rfl
      refine one_ (i := 26) (N := some 53) bqFx57_27 rfl rfl (one_of HT_.out (by kernel_rfl)) (by decide) (fun K hK => ?_)
      refine goes_ Try.func113 (by kernel_rfl) rfl #[.slice A571007_0 ((rd_T115 l0_1 (ji16)).f0).length c571007_0, .slice A571003_0 ((rd_T115 l0_1 x3_2).f0).length c571003_0] (by rfl) rfl rfl (by (try simp only [List.map_toArray, List.map_cons, List.map_nil]); first | done | (simp only [hji16]; rfl) | rfl | (simp only [List.length_drop, List.length_take]; rfl)) ?_
      with_reducible refine (spec_l01Before.calls k2 _ _ ((rd_T115 l0_1 (ji16)).f0) _ _ ((rd_T115 l0_1 x3_2).f0) false _ ?side1 ?side2 ?side3 ?side4 A19.out).mono ?_
      (case side1 => repeat (first | exact (Kd.C_below HR571007_0.out (by repeat (first | (with_reducible first | exact HB.out | apply below_alloc | apply pw_below_drewN | apply below_drew1 | refine below_set ?_ GE571001.out | refine below_set ?_ GE571004.out) | exact HB.out))) | (with_reducible refine Kd.C_alloc ?_ _) | (with_reducible refine Kd.C_drewN ?_ _) | (with_reducible refine Kd.C_drew ?_)))
      (case side2 => exact HC571007_0.out)
      (case side3 => repeat (first | exact (Kd.C_below HR571003_0.out (by repeat (first | (with_reducible first | exact HB.out | apply below_alloc | apply pw_below_drewN | apply below_drew1 | refine below_set ?_ GE571001.out | refine below_set ?_ GE571004.out) | exact HB.out))) | (with_reducible refine Kd.C_alloc ?_ _) | (with_reducible refine Kd.C_drewN ?_ _) | (with_reducible refine Kd.C_drew ?_)))
      (case side4 => exact HC571003_0.out)
      rintro e w' ⟨rfl, ⟨nd, rfl⟩⟩
      refine ⟨_, rfl, ?_⟩
      refine hK.out _ _ ⟨(blk_cell BK571004.out 0).trans rfl, (blk_cell BK571004.out 1).trans rfl, (blk_cell BK571001.out 0).trans rfl, (blk_cell BK571001.out 1).trans rfl, ((HB.out.cell (World.block_lt_of_cell? w _ hw571007_0)).trans hw571007_0), ((HB.out.cell (World.block_lt_of_cell? w _ hw571007_1)).trans hw571007_1)⟩ (fun hHeld => ?_)
      clear hK K
      refine norm_ (a' := ?_) ?_ ?_
      rotate_left
      ·show Act.put _ (some 53) _ = _
       simp only [Act.put, List.setIfInBounds_toArray, List.set_cons_zero, List.set_cons_succ, i64_w, i32_w]
       rfl
      refine pure_ (i := 27) (N := some 54) (v := ?_) (a' := ?_) bqFx57_28 rfl rfl (any_of HT_.out (by kernel_rfl)) (fun _ _ _ h => h) (Or.inl ⟨by rfl, ?_⟩) ?_ ?_
      rotate_left
      ·intro w'
       go_simp
       with_reducible rfl
      rotate_left
      ·simp only [Act.put, List.setIfInBounds_toArray, List.set_cons_zero, List.set_cons_succ, i64_w, i32_w]
       rfl
      refine pure_ (i := 28) (N := some 55) (v := ?_) (a' := ?_) bqFx57_29 rfl rfl (any_of HT_.out (by kernel_rfl)) (fun _ _ _ h => h) (Or.inl ⟨by rfl, ?_⟩) ?_ ?_
      rotate_left
      ·intro w'
       go_simp
       with_reducible rfl
      rotate_left
      ·simp only [Act.put, List.setIfInBounds_toArray, List.set_cons_zero, List.set_cons_succ, i64_w, i32_w]
       rfl
      refine pure_ (i := 29) (N := some 56) (v := ?_) (a' := ?_) bqFx57_30 rfl rfl (any_of HT_.out (by kernel_rfl)) (fun _ _ _ h => h) (Or.inl ⟨by rfl, ?_⟩) ?_ ?_
      rotate_left
      ·intro w'
       go_simp
       with_reducible rfl
      rotate_left
      ·simp only [Act.put, List.setIfInBounds_toArray, List.set_cons_zero, List.set_cons_succ, i64_w, i32_w]
       rfl
      refine done_ (done_of HT_.out (by kernel_rfl)) ?_
      try go_wp2
      go_ret
      exact ⟨by first | rfl | (simp [errW_none, errW_some] <;> rfl) | (simp only [← hji16]; first | rfl | (simp [errW_none, errW_some] <;> rfl)) | (simp [*, errW_none, errW_some] <;> rfl), by repeat (first | (with_reducible first | exact HB.out | apply below_alloc | apply pw_below_drewN | apply below_drew1 | refine below_set ?_ GE571001.out | refine below_set ?_ GE571004.out) | exact HB.out)⟩
     subst c20
     have H1 : (spec_l03Is.l0 k2 (wrap64 (x3_2 + 1)) a0_0 l0_1) = some r := by rw [if_pos rfl] at H; exact H
     clear H
     have H := H1
     clear H1
     have H' := Aside0.mk H
     clear H
     have hcz21_0 : wr.cell? ⟨gb571001, 0, none⟩ = some (.int .i64 a0_0) := (blk_cell BK571001.out 0).trans rfl
     have hcz21_1 : wr.cell? ⟨gb571001, 1, none⟩ = some (.slice A0_1 l0_1.length c0_1) := (blk_cell BK571001.out 1).trans rfl
     have hfz21_0 := blk_frozen BK571001.out 0
     have hfz21_1 := blk_frozen BK571001.out 1
     have p571003 : 0 ≤ (x3_2 : Int) := of_decide_eq_true (by first | (with_reducible assumption) | assumption)
     have q571003 : x3_2 < (l0_1.length : Int) := of_decide_eq_true (by first | (with_reducible assumption) | assumption)
     obtain ⟨ad571003, A571003_0, c571003_0, e571003, hx571003_0, hx571003_1, hl571003_0, hi571003_0⟩ := at_T115 HR0_1.out x3_2 p571003 q571003
     cases e571003
     replace hx571003_0 := (HB.out.cell (World.block_lt_of_cell? w _ hx571003_0)).trans hx571003_0
     replace hx571003_1 := (HB.out.cell (World.block_lt_of_cell? w _ hx571003_1)).trans hx571003_1
     have HR571003_0 := Aside0.mk hi571003_0
     have HC571003_0 := Aside0.mk hl571003_0
     clear hi571003_0 hl571003_0
     replace p571003 := eq_true p571003
     replace q571003 := eq_true q571003
     try go_wp2_with (first | ((with_reducible refine gate_dst (N := 4) rfl ?_); (try (refine gate_guard (by rfl) ?_; dsimp only)); refine box_event ?hg (N := 4) ?hd (cs := #[.slice none 0 0, .int .i64 0]) (t := 115) ?hr ?_; (case hd => rfl); (case hg => rfl); (case hr => first | (go_simp; done) | (go_simp; rfl)); intro gb571004 hg w22 hbox hb; have n0_ := Aside0.mk (blk_below (g := gb571001) (o := .cells #[.int .i64 a0_0, .slice (some ad571003) l0_1.length c0_1] 46 (0, 0)) (by (with_reducible repeat (first | refine blk_drewN ?_ _ | refine blk_drew ?_ | refine blk_alloc ?_ _)); exact BK571001.out) hb); have n1_ := Aside0.mk (below_step (by repeat (first | (with_reducible first | exact HB.out | apply below_alloc | apply pw_below_drewN | apply below_drew1 | refine below_set ?_ GE571001.out) | exact HB.out)) hb); have n2_ := Aside0.mk (hbox); have n3_ := Aside0.mk ((by rw [hg]; exact (below_size (by repeat (first | (with_reducible first | exact HB.out | apply below_alloc | apply pw_below_drewN | apply below_drew1 | refine below_set ?_ GE571001.out) | exact HB.out))) : w.heap.size ≤ gb571004)); have n4_ := Aside0.mk ((by rw [hg]; exact (below_size (by repeat (first | (with_reducible first | exact HB.out | apply below_alloc | apply pw_below_drewN | apply below_drew1 | refine below_set ?_ GE571001.out) | exact HB.out))) : w.heap.size ≤ gb571004)); have n5_ := Aside0.mk ((by rw [hg]; exact Nat.ne_of_lt (blk_lt (g := gb571001) (o := .cells #[.int .i64 a0_0, .slice (some ad571003) l0_1.length c0_1] 46 (0, 0)) (by (with_reducible repeat (first | refine blk_drewN ?_ _ | refine blk_drew ?_ | refine blk_alloc ?_ _)); exact BK571001.out)) : gb571001 ≠ gb571004)); have n6_ := Aside0.mk ((by rw [hg]; exact Nat.ne_of_gt (blk_lt (g := gb571001) (o := .cells #[.int .i64 a0_0, .slice (some ad571003) l0_1.length c0_1] 46 (0, 0)) (by (with_reducible repeat (first | refine blk_drewN ?_ _ | refine blk_drew ?_ | refine blk_alloc ?_ _)); exact BK571001.out)) : gb571004 ≠ gb571001)); clear BK571001; clear HB; have BK571001 := n0_; have HB := n1_; have BK571004 := n2_; have GW571004 := n3_; have GE571004 := n4_; have NB571001_571004 := n5_; have NB571004_571001 := n6_; clear n0_ n1_ n2_ n3_ n4_ n5_ n6_; clear hb hbox hg; have hnb23 := NB571004_571001.out; have hnc23 := NB571001_571004.out; have hcz24_0 : w22.cell? ⟨gb571004, 0, none⟩ = some (.slice none 0 0) := (blk_cell BK571004.out 0).trans rfl; have hcz24_1 : w22.cell? ⟨gb571004, 1, none⟩ = some (.int .i64 0) := (blk_cell BK571004.out 1).trans rfl; have hfz24_0 := blk_frozen BK571004.out 0; have hfz24_1 := blk_frozen BK571004.out 1))
     have n0_ : Aside0 (((w22.setCell ⟨gb571004, 0, none⟩ (.slice A571003_0 ((rd_T115 l0_1 x3_2).f0).length c571003_0)).setCell ⟨gb571004, 1, none⟩ (.int .i64 ((rd_T115 l0_1 x3_2).f1))).heap[gb571001]? = some (.cells #[.int .i64 a0_0, .slice (some ad571003) l0_1.length c0_1] 46 (0, 0))) := ⟨by (with_reducible repeat (first | refine blk_drewN ?_ _ | refine blk_drew ?_ | refine blk_alloc ?_ _)); refine blk_far ?_ NB571001_571004.out _; (with_reducible repeat (first | refine blk_drewN ?_ _ | refine blk_drew ?_ | refine blk_alloc ?_ _)); refine blk_far ?_ NB571001_571004.out _; (with_reducible repeat (first | refine blk_drewN ?_ _ | refine blk_drew ?_ | refine blk_alloc ?_ _)); exact BK571001.out⟩
     have n1_ : Aside0 (((w22.setCell ⟨gb571004, 0, none⟩ (.slice A571003_0 ((rd_T115 l0_1 x3_2).f0).length c571003_0)).setCell ⟨gb571004, 1, none⟩ (.int .i64 ((rd_T115 l0_1 x3_2).f1))).heap[gb571004]? = some (.cells #[.slice A571003_0 ((rd_T115 l0_1 x3_2).f0).length c571003_0, .int .i64 ((rd_T115 l0_1 x3_2).f1)] 115 (0, 0))) := ⟨by (with_reducible repeat (first | refine blk_drewN ?_ _ | refine blk_drew ?_ | refine blk_alloc ?_ _)); refine blk_put (cs := #[.slice A571003_0 ((rd_T115 l0_1 x3_2).f0).length c571003_0, .int .i64 0]) ?_ 1 _ rfl; (with_reducible repeat (first | refine blk_drewN ?_ _ | refine blk_drew ?_ | refine blk_alloc ?_ _)); refine blk_put (cs := #[.slice none 0 0, .int .i64 0]) ?_ 0 _ rfl; (with_reducible repeat (first | refine blk_drewN ?_ _ | refine blk_drew ?_ | refine blk_alloc ?_ _)); exact BK571004.out⟩
     have n2_ : Aside0 (Below w.heap.size w ((w22.setCell ⟨gb571004, 0, none⟩ (.slice A571003_0 ((rd_T115 l0_1 x3_2).f0).length c571003_0)).setCell ⟨gb571004, 1, none⟩ (.int .i64 ((rd_T115 l0_1 x3_2).f1)))) := ⟨by repeat (first | (with_reducible first | exact HB.out | apply below_alloc | apply pw_below_drewN | apply below_drew1 | refine below_set ?_ GE571001.out | refine below_set ?_ GE571004.out) | exact HB.out)⟩
     (try clear BK571001)
     (try clear BK571004)
     (try clear HB)
     generalize ((w22.setCell ⟨gb571004, 0, none⟩ (.slice A571003_0 ((rd_T115 l0_1 x3_2).f0).length c571003_0)).setCell ⟨gb571004, 1, none⟩ (.int .i64 ((rd_T115 l0_1 x3_2).f1))) = w25 at n0_ n1_ n2_ ⊢
     have BK571001 := n0_
     have BK571004 := n1_
     have HB := n2_
     clear n0_ n1_ n2_
     have n0_ := Aside0.mk (blk_drew BK571001.out)
     have n1_ := Aside0.mk (blk_drew BK571004.out)
     have n2_ := Aside0.mk (below_drew1 HB.out)
     clear BK571001
     clear BK571004
     clear HB
     have BK571001 := n0_
     have BK571004 := n1_
     have HB := n2_
     clear n0_ n1_ n2_
     have p571007 : 0 ≤ ((ji16) : Int) := of_decide_eq_true (by first | (with_reducible assumption) | assumption)
     have q571007 : (ji16) < (l0_1.length : Int) := of_decide_eq_true (by first | (with_reducible assumption) | assumption)
     obtain ⟨ad571007, A571007_0, c571007_0, e571007, hx571007_0, hx571007_1, hl571007_0, hi571007_0⟩ := at_T115 HR0_1.out (ji16) p571007 q571007
     have hw571007_1 := hx571007_1
     have hw571007_0 := hx571007_0
     obtain rfl : ad571003 = ad571007 := (by injection e571007)
     replace hx571007_0 := (HB.out.cell (World.block_lt_of_cell? w _ hx571007_0)).trans hx571007_0
     replace hx571007_1 := (HB.out.cell (World.block_lt_of_cell? w _ hx571007_1)).trans hx571007_1
     have HR571007_0 := Aside0.mk hi571007_0
     have HC571007_0 := Aside0.mk hl571007_0
     clear hi571007_0 hl571007_0
     replace p571007 := eq_true p571007
     replace q571007 := eq_true q571007
     refine start_ (n := 30) (S := fun w' => w'.cell? ⟨gb571004, 0, none⟩ = some (.slice A571003_0 ((rd_T115 l0_1 x3_2).f0).length c571003_0) ∧ w'.cell? ⟨gb571004, 1, none⟩ = some (.int .i64 ((rd_T115 l0_1 x3_2).f1)) ∧ w'.cell? ⟨gb571001, 0, none⟩ = some (.int .i64 a0_0) ∧ w'.cell? ⟨gb571001, 1, none⟩ = some (.slice (some ad571003) l0_1.length c0_1) ∧ w'.cell? (ad571003.add (((ji16)).toNat * 2)) = some (.slice A571007_0 ((rd_T115 l0_1 (ji16)).f0).length c571007_0) ∧ w'.cell? ⟨(ad571003.add (((ji16)).toNat * 2)).block, (ad571003.add (((ji16)).toNat * 2)).off + 1, none⟩ = some (.int .i64 ((rd_T115 l0_1 (ji16)).f1))) (ds := []) bqFx57_0 (by kernel_rfl) rfl rfl ⟨(blk_cell BK571004.out 0).trans rfl, (blk_cell BK571004.out 1).trans rfl, (blk_cell BK571001.out 0).trans rfl, (blk_cell BK571001.out 1).trans rfl, ((HB.out.cell (World.block_lt_of_cell? w _ hw571007_0)).trans hw571007_0), ((HB.out.cell (World.block_lt_of_cell? w _ hw571007_1)).trans hw571007_1)⟩ (fun hHeld => ?_); refine with_tabW spec_l03Is.tab7 spec_l03Is.bits7 (fun HT_ HW_ => ?_)
     generalize w25.drew = w26 at BK571001 BK571004 HB HR571007_0 hx571007_0 hx571007_1 hHeld ⊢
     refine pure_ (i := 0) (N := some 27) (v := ?_) (a' := ?_) bqFx57_1 rfl rfl (any_of HT_.out (by kernel_rfl)) (fun _ _ _ h => h) (Or.inl ⟨by rfl, ?_⟩) ?_ ?_
     rotate_left
     ·intro w'
      go_simp
      with_reducible rfl
     rotate_left
     ·simp only [Act.put, List.setIfInBounds_toArray, List.set_cons_zero, List.set_cons_succ, i64_w, i32_w]
      rfl
     refine take_ (i := 1) (N := some 28) (v := ?_) (a' := ?_) bqFx57_2 rfl rfl (take_ofW HT_.out HW_.out (by kernel_rfl)) (fun _ _ _ h => h) (Or.inl ⟨by rfl, ?_⟩) hHeld ?_ ?_
     rotate_left
     ·rintro w' ⟨s0, s1, s2, s3, s4, s5⟩
      go_simp
      with_reducible rfl
     rotate_left
     ·simp only [Act.put, List.setIfInBounds_toArray, List.set_cons_zero, List.set_cons_succ, i64_w, i32_w]
      rfl
     refine one_ (i := 2) (N := some 29) bqFx57_3 rfl rfl (one_of HT_.out (by kernel_rfl)) (by decide) (fun K hK => ?_)
     refine goes_ Try.func56 (by kernel_rfl) rfl #[.slice A571003_0 ((rd_T115 l0_1 x3_2).f0).length c571003_0] (by rfl) rfl rfl (by (try simp only [List.map_toArray, List.map_cons, List.map_nil]); first | done | rfl | (simp only [List.length_drop, List.length_take]; rfl)) ?_
     with_reducible refine (spec_l01Is.calls k2 _ _ ((rd_T115 l0_1 x3_2).f0) true _ ?side1 ?side2 A11.out).mono ?_
     (case side1 => repeat (first | exact (Kd.C_below HR571003_0.out HB.out) | (with_reducible refine Kd.C_alloc ?_ _) | (with_reducible refine Kd.C_drewN ?_ _) | (with_reducible refine Kd.C_drew ?_)))
     (case side2 => exact HC571003_0.out)
     rintro e w27 ⟨rfl, hb⟩
     refine ⟨_, rfl, ?_⟩
     have n0_ := Aside0.mk (blk_below (g := gb571001) (o := .cells #[.int .i64 a0_0, .slice (some ad571003) l0_1.length c0_1] 46 (0, 0)) (by (with_reducible repeat (first | refine blk_drewN ?_ _ | refine blk_drew ?_ | refine blk_alloc ?_ _)); exact BK571001.out) hb)
     have n1_ := Aside0.mk (blk_below (g := gb571004) (o := .cells #[.slice A571003_0 ((rd_T115 l0_1 x3_2).f0).length c571003_0, .int .i64 ((rd_T115 l0_1 x3_2).f1)] 115 (0, 0)) (by (with_reducible repeat (first | refine blk_drewN ?_ _ | refine blk_drew ?_ | refine blk_alloc ?_ _)); exact BK571004.out) hb)
     have n2_ := Aside0.mk (below_step (by repeat (first | (with_reducible first | exact HB.out | apply below_alloc | apply pw_below_drewN | apply below_drew1 | refine below_set ?_ GE571001.out | refine below_set ?_ GE571004.out) | exact HB.out)) hb)
     clear BK571001
     clear BK571004
     clear HB
     have BK571001 := n0_
     have BK571004 := n1_
     have HB := n2_
     clear n0_ n1_ n2_
     (try clear hb)
     (try clear hb2)
     (try clear hk)
     (try clear hi)
     refine hK.out _ _ ⟨(blk_cell BK571004.out 0).trans rfl, (blk_cell BK571004.out 1).trans rfl, (blk_cell BK571001.out 0).trans rfl, (blk_cell BK571001.out 1).trans rfl, ((HB.out.cell (World.block_lt_of_cell? w _ hw571007_0)).trans hw571007_0), ((HB.out.cell (World.block_lt_of_cell? w _ hw571007_1)).trans hw571007_1)⟩ (fun hHeld => ?_)
     clear hK K
     refine norm_ (a' := ?_) ?_ ?_
     rotate_left
     ·show Act.put _ (some 29) _ = _
      simp only [Act.put, List.setIfInBounds_toArray, List.set_cons_zero, List.set_cons_succ, i64_w, i32_w]
      rfl
     refine pure_ (i := 3) (N := some 30) (v := ?_) (a' := ?_) bqFx57_4 rfl rfl (any_of HT_.out (by kernel_rfl)) (fun _ _ _ h => h) (Or.inl ⟨by rfl, ?_⟩) ?_ ?_
     rotate_left
     ·intro w'
      go_simp
      with_reducible rfl
     rotate_left
     ·simp only [Act.put, List.setIfInBounds_toArray, List.set_cons_zero, List.set_cons_succ, i64_w, i32_w]
      rfl
     refine pure_ (i := 4) (N := some 31) (v := ?_) (a' := ?_) bqFx57_5 rfl rfl (any_of HT_.out (by kernel_rfl)) (fun _ _ _ h => h) (Or.inl ⟨by rfl, ?_⟩) ?_ ?_
     rotate_left
     ·intro w'
      go_simp
      with_reducible rfl
     rotate_left
     ·simp only [Act.put, List.setIfInBounds_toArray, List.set_cons_zero, List.set_cons_succ, i64_w, i32_w]
      rfl
     refine pure_ (i := 5) (N := some 32) (v := ?_) (a' := ?_) bqFx57_6 rfl rfl (any_of HT_.out (by kernel_rfl)) (fun _ _ _ h => h) (Or.inl ⟨by rfl, ?_⟩) ?_ ?_
     rotate_left
     ·intro w'
      go_simp
      with_reducible rfl
     rotate_left
     ·simp only [Act.put, List.setIfInBounds_toArray, List.set_cons_zero, List.set_cons_succ, i64_w, i32_w]
      rfl
     refine pure_ (i := 7) (N := some 34) (v := ?_) (a' := ?_) bqFx57_31 rfl rfl (any_of HT_.out (by kernel_rfl)) (fun _ _ _ h => h) (Or.inl ⟨by rfl, ?_⟩) ?_ ?_
     rotate_left
     ·intro w'
      go_simp
      with_reducible rfl
     rotate_left
     ·simp only [Act.put, List.setIfInBounds_toArray, List.set_cons_zero, List.set_cons_succ, i64_w, i32_w]
      rfl
     refine take_ (i := 6) (N := some 33) (v := ?_) (a' := ?_) bqFx57_8 rfl rfl (take_ofW HT_.out HW_.out (by kernel_rfl)) (fun _ _ _ h => h) (Or.inl ⟨by rfl, ?_⟩) hHeld ?_ ?_
     rotate_left
     ·rintro w' ⟨s0, s1, s2, s3, s4, s5⟩
      go_simp
      with_reducible rfl
     rotate_left
     ·simp only [Act.put, List.setIfInBounds_toArray, List.set_cons_zero, List.set_cons_succ, i64_w, i32_w]
      rfl
     refine take_ (i := 8) (N := some 35) (v := ?_) (a' := ?_) bqFx57_9 rfl rfl (take_ofW HT_.out HW_.out (by kernel_rfl)) (fun _ _ _ h => h) (Or.inl ⟨by rfl, ?_⟩) hHeld ?_ ?_
     rotate_left
     ·rintro w' ⟨s0, s1, s2, s3, s4, s5⟩
      go_simp
      with_reducible rfl
     rotate_left
     ·simp only [Act.put, List.setIfInBounds_toArray, List.set_cons_zero, List.set_cons_succ, i64_w, i32_w]
      rfl
     refine pure_ (i := 9) (N := some 36) (v := ?_) (a' := ?_) bqFx57_10 rfl rfl (any_of HT_.out (by kernel_rfl)) (fun _ _ _ h => h) (Or.inl ⟨by rfl, ?_⟩) ?_ ?_
     rotate_left
     ·intro w'
      go_simp
      with_reducible rfl
     rotate_left
     ·simp only [Act.put, List.setIfInBounds_toArray, List.set_cons_zero, List.set_cons_succ, i64_w, i32_w]
      rfl
     refine one_ (i := 10) (N := some 37) bqFx57_11 rfl rfl (one_of HT_.out (by kernel_rfl)) (by decide) (fun K hK => ?_)
     refine goes_ Try.func64 (by kernel_rfl) rfl #[.int .i64 ((rd_T115 l0_1 x3_2).f1), .int .i64 1, .int .i64 (wrap64 (a0_0 - 1))] (by rfl) rfl rfl (by (try simp only [List.map_toArray, List.map_cons, List.map_nil]); first | done | rfl | (simp only [List.length_drop, List.length_take]; rfl)) ?_
     with_reducible refine (spec_l01In.calls ((rd_T115 l0_1 x3_2).f1) 1 (wrap64 (a0_0 - 1)) true _ A13.out).mono ?_
     rintro e w' ⟨rfl, ⟨nd, rfl⟩⟩
     refine ⟨_, rfl, ?_⟩
     refine hK.out _ _ ⟨(blk_cell BK571004.out 0).trans rfl, (blk_cell BK571004.out 1).trans rfl, (blk_cell BK571001.out 0).trans rfl, (blk_cell BK571001.out 1).trans rfl, ((HB.out.cell (World.block_lt_of_cell? w _ hw571007_0)).trans hw571007_0), ((HB.out.cell (World.block_lt_of_cell? w _ hw571007_1)).trans hw571007_1)⟩ (fun hHeld => ?_)
     clear hK K
     refine norm_ (a' := ?_) ?_ ?_
     rotate_left
     ·show Act.put _ (some 37) _ = _
      simp only [Act.put, List.setIfInBounds_toArray, List.set_cons_zero, List.set_cons_succ, i64_w, i32_w]
      rfl
     refine pure_ (i := 11) (N := some 38) (v := ?_) (a' := ?_) bqFx57_12 rfl rfl (any_of HT_.out (by kernel_rfl)) (fun _ _ _ h => h) (Or.inl ⟨by rfl, ?_⟩) ?_ ?_
     rotate_left
     ·intro w'
      go_simp
      with_reducible rfl
     rotate_left
     ·simp only [Act.put, List.setIfInBounds_toArray, List.set_cons_zero, List.set_cons_succ, i64_w, i32_w]
      rfl
     refine pure_ (i := 12) (N := some 39) (v := ?_) (a' := ?_) bqFx57_13 rfl rfl (any_of HT_.out (by kernel_rfl)) (fun _ _ _ h => h) (Or.inl ⟨by rfl, ?_⟩) ?_ ?_
     rotate_left
     ·intro w'
      go_simp
      with_reducible rfl
     rotate_left
     ·simp only [Act.put, List.setIfInBounds_toArray, List.set_cons_zero, List.set_cons_succ, i64_w, i32_w]
      rfl
     refine pure_ (i := 13) (N := some 40) (v := ?_) (a' := ?_) bqFx57_14 rfl rfl (any_of HT_.out (by kernel_rfl)) (fun _ _ _ h => h) (Or.inl ⟨by rfl, ?_⟩) ?_ ?_
     rotate_left
     ·intro w'
      go_simp
      with_reducible rfl
     rotate_left
     ·simp only [Act.put, List.setIfInBounds_toArray, List.set_cons_zero, List.set_cons_succ, i64_w, i32_w]
      rfl
     refine pure_ (i := 14) (N := some 41) (v := ?_) (a' := ?_) bqFx57_15 rfl rfl (any_of HT_.out (by kernel_rfl)) (fun _ _ _ h => h) (Or.inl ⟨by rfl, ?_⟩) ?_ ?_
     rotate_left
     ·intro w'
      go_simp
      with_reducible rfl
     rotate_left
     ·simp only [Act.put, List.setIfInBounds_toArray, List.set_cons_zero, List.set_cons_succ, i64_w, i32_w]
      rfl
     refine pure_ (i := 15) (N := some 42) (v := ?_) (a' := ?_) bqFx57_16 rfl rfl (any_of HT_.out (by kernel_rfl)) (fun _ _ _ h => h) (Or.inl ⟨by rfl, ?_⟩) ?_ ?_
     rotate_left
     ·intro w'
      go_simp
      with_reducible rfl
     rotate_left
     ·simp only [Act.put, List.setIfInBounds_toArray, List.set_cons_zero, List.set_cons_succ, i64_w, i32_w]
      rfl
     refine pure_ (i := 16) (N := some 43) (v := ?_) (a' := ?_) bqFx57_17 rfl rfl (any_of HT_.out (by kernel_rfl)) (fun _ _ _ h => h) (Or.inl ⟨by rfl, ?_⟩) ?_ ?_
     rotate_left
     ·intro w'
      go_simp
      with_reducible rfl
     rotate_left
     ·simp only [Act.put, List.setIfInBounds_toArray, List.set_cons_zero, List.set_cons_succ, i64_w, i32_w]
      rfl
     refine pure_ (i := 17) (N := some 44) (v := ?_) (a' := ?_) bqFx57_18 rfl rfl (any_of HT_.out (by kernel_rfl)) (fun _ _ _ h => h) (Or.inl ⟨by rfl, ?_⟩) ?_ ?_
     rotate_left
     ·intro w'
      go_simp
      with_reducible rfl
     rotate_left
     ·simp only [Act.put, List.setIfInBounds_toArray, List.set_cons_zero, List.set_cons_succ, i64_w, i32_w]
      rfl
     refine pure_ (i := 19) (N := some 46) (v := ?_) (a' := ?_) bqFx57_32 rfl rfl (any_of HT_.out (by kernel_rfl)) (fun _ _ _ h => h) (Or.inl ⟨by rfl, ?_⟩) ?_ ?_
     rotate_left
     ·intro w'
      go_simp
      with_reducible rfl
     rotate_left
     ·simp only [Act.put, List.setIfInBounds_toArray, List.set_cons_zero, List.set_cons_succ, i64_w, i32_w]
      rfl
     refine pure_ (i := 20) (N := some 47) (v := ?_) (a' := ?_) bqFx57_33 rfl rfl (any_of HT_.out (by kernel_rfl)) (fun _ _ _ h => h) (Or.inl ⟨by rfl, ?_⟩) ?_ ?_
     rotate_left
     ·intro w'
      go_simp
      with_reducible rfl
     rotate_left
     ·simp only [Act.put, List.setIfInBounds_toArray, List.set_cons_zero, List.set_cons_succ, i64_w, i32_w]
      rfl
     refine pure_ (i := 24) (N := some 51) (v := ?_) (a' := ?_) bqFx57_34 rfl rfl (any_of HT_.out (by kernel_rfl)) (fun _ _ _ h => h) (Or.inl ⟨by rfl, ?_⟩) ?_ ?_
     rotate_left
     ·intro w'
      go_simp
      with_reducible rfl
     rotate_left
     ·simp only [Act.put, List.setIfInBounds_toArray, List.set_cons_zero, List.set_cons_succ, i64_w, i32_w]
      rfl
     refine take_ (i := 18) (N := some 45) (v := ?_) (a' := ?_) bqFx57_35 rfl rfl (take_ofW HT_.out HW_.out (by kernel_rfl)) (fun _ _ _ h => h) (Or.inl ⟨by rfl, ?_⟩) hHeld ?_ ?_
     rotate_left
     ·rintro w' ⟨s0, s1, s2, s3, s4, s5⟩
      go_simp
      with_reducible rfl
     rotate_left
     ·simp only [Act.put, List.setIfInBounds_toArray, List.set_cons_zero, List.set_cons_succ, i64_w, i32_w]
      rfl
     refine pure_ (i := 21) (N := some 48) (v := ?_) (a' := ?_) bqFx57_36 rfl rfl (any_of HT_.out (by kernel_rfl)) (fun _ _ _ h => h) (Or.inl ⟨by rfl, ?_⟩) ?_ ?_
     rotate_left
     ·intro w'
      go_simp
      with_reducible rfl
     rotate_left
     ·simp only [Act.put, List.setIfInBounds_toArray, List.set_cons_zero, List.set_cons_succ, i64_w, i32_w]
      rfl
     refine pure_ (i := 22) (N := some 49) (v := ?_) (a' := ?_) bqFx57_37 rfl rfl (any_of HT_.out (by kernel_rfl)) (fun _ _ _ h => h) (Or.inl ⟨by rfl, ?_⟩) ?_ ?_
     rotate_left
     ·intro w'
      go_simp
      with_reducible rfl
     rotate_left
     ·simp only [Act.put, List.setIfInBounds_toArray, List.set_cons_zero, List.set_cons_succ, i64_w, i32_w]
      rfl
     refine take_ (i := 23) (N := some 50) (v := ?_) (a' := ?_) bqFx57_25 rfl rfl (take_ofW HT_.out HW_.out (by kernel_rfl)) (fun _ _ _ h => h) (Or.inl ⟨by rfl, ?_⟩) hHeld ?_ ?_
     rotate_left
     ·rintro w' ⟨s0, s1, s2, s3, s4, s5⟩
      go_simp
      with_reducible rfl
     rotate_left
     ·simp only [Act.put, List.setIfInBounds_toArray, List.set_cons_zero, List.set_cons_succ, i64_w, i32_w]
      rfl
     refine take_ (i := 25) (N := some 52) (v := ?_) (a' := ?_) bqFx57_26 rfl rfl (take_ofW HT_.out HW_.out (by kernel_rfl)) (fun _ _ _ h => h) (Or.inl ⟨by rfl, ?_⟩) hHeld ?_ ?_
     rotate_left
     ·rintro w' ⟨s0, s1, s2, s3, s4, s5⟩
      go_simp
      with_reducible rfl
     rotate_left
     ·simp only [Act.put, List.setIfInBounds_toArray, List.set_cons_zero, List.set_cons_succ, i64_w, i32_w]
      rfl
     refine one_ (i := 26) (N := some 53) bqFx57_27 rfl rfl (one_of HT_.out (by kernel_rfl)) (by decide) (fun K hK => ?_)
     refine goes_ Try.func113 (by kernel_rfl) rfl #[.slice A571007_0 ((rd_T115 l0_1 (ji16)).f0).length c571007_0, .slice A571003_0 ((rd_T115 l0_1 x3_2).f0).length c571003_0] (by rfl) rfl rfl (by (try simp only [List.map_toArray, List.map_cons, List.map_nil]); first | done | (simp only [hji16]; rfl) | rfl | (simp only [List.length_drop, List.length_take]; rfl)) ?_
     with_reducible refine (spec_l01Before.calls k2 _ _ ((rd_T115 l0_1 (ji16)).f0) _ _ ((rd_T115 l0_1 x3_2).f0) true _ ?side1 ?side2 ?side3 ?side4 A19.out).mono ?_
     (case side1 => repeat (first | exact (Kd.C_below HR571007_0.out (by repeat (first | (with_reducible first | exact HB.out | apply below_alloc | apply pw_below_drewN | apply below_drew1 | refine below_set ?_ GE571001.out | refine below_set ?_ GE571004.out) | exact HB.out))) | (with_reducible refine Kd.C_alloc ?_ _) | (with_reducible refine Kd.C_drewN ?_ _) | (with_reducible refine Kd.C_drew ?_)))
     (case side2 => exact HC571007_0.out)
     (case side3 => repeat (first | exact (Kd.C_below HR571003_0.out (by repeat (first | (with_reducible first | exact HB.out | apply below_alloc | apply pw_below_drewN | apply below_drew1 | refine below_set ?_ GE571001.out | refine below_set ?_ GE571004.out) | exact HB.out))) | (with_reducible refine Kd.C_alloc ?_ _) | (with_reducible refine Kd.C_drewN ?_ _) | (with_reducible refine Kd.C_drew ?_)))
     (case side4 => exact HC571003_0.out)
     rintro e w' ⟨rfl, ⟨nd, rfl⟩⟩
     refine ⟨_, rfl, ?_⟩
     refine hK.out _ _ ⟨(blk_cell BK571004.out 0).trans rfl, (blk_cell BK571004.out 1).trans rfl, (blk_cell BK571001.out 0).trans rfl, (blk_cell BK571001.out 1).trans rfl, ((HB.out.cell (World.block_lt_of_cell? w _ hw571007_0)).trans hw571007_0), ((HB.out.cell (World.block_lt_of_cell? w _ hw571007_1)).trans hw571007_1)⟩ (fun hHeld => ?_)
     clear hK K
     refine norm_ (a' := ?_) ?_ ?_
     rotate_left
     ·show Act.put _ (some 53) _ = _
      simp only [Act.put, List.setIfInBounds_toArray, List.set_cons_zero, List.set_cons_succ, i64_w, i32_w]
      rfl
     refine pure_ (i := 27) (N := some 54) (v := ?_) (a' := ?_) bqFx57_28 rfl rfl (any_of HT_.out (by kernel_rfl)) (fun _ _ _ h => h) (Or.inl ⟨by rfl, ?_⟩) ?_ ?_
     rotate_left
     ·intro w'
      go_simp
      with_reducible rfl
     rotate_left
     ·simp only [Act.put, List.setIfInBounds_toArray, List.set_cons_zero, List.set_cons_succ, i64_w, i32_w]
      rfl
     refine pure_ (i := 28) (N := some 55) (v := ?_) (a' := ?_) bqFx57_29 rfl rfl (any_of HT_.out (by kernel_rfl)) (fun _ _ _ h => h) (Or.inl ⟨by rfl, ?_⟩) ?_ ?_
     rotate_left
     ·intro w'
      go_simp
      with_reducible rfl
     rotate_left
     ·simp only [Act.put, List.setIfInBounds_toArray, List.set_cons_zero, List.set_cons_succ, i64_w, i32_w]
      rfl
     refine pure_ (i := 29) (N := some 56) (v := ?_) (a' := ?_) bqFx57_30 rfl rfl (any_of HT_.out (by kernel_rfl)) (fun _ _ _ h => h) (Or.inl ⟨by rfl, ?_⟩) ?_ ?_
     rotate_left
     ·intro w'
      go_simp
      with_reducible rfl
     rotate_left
     ·simp only [Act.put, List.setIfInBounds_toArray, List.set_cons_zero, List.set_cons_succ, i64_w, i32_w]
      rfl
     refine done_ (done_of HT_.out (by kernel_rfl)) ?_
     try go_wp2
     go_roundg k2
     case measure => have := HJ1.out; have := HK2.out; omega
     case rel => exact ⟨(wrap64 (x3_2 + 1)), (by first | rfl | (simp; done) | (simp [*]; done)), H', ⟨by have := HJ1.out; have := HK2.out; omega⟩, ⟨by (with_reducible repeat (first | refine blk_drewN ?_ _ | refine blk_drew ?_ | refine blk_alloc ?_ _)); exact BK571001.out⟩, ⟨by repeat (first | (with_reducible first | exact HB.out | apply below_alloc | apply pw_below_drewN | apply below_drew1 | refine below_set ?_ GE571001.out | refine below_set ?_ GE571004.out) | exact HB.out)⟩⟩
end Go.Proofs.Ytmeggliapebkgaa.F
end
section
namespace Go.Proofs.Ytmeggliapebkgaa.F
open Go.RowKit Go.Proofs.YtmeggliapebkgaaW.PrintWords Go.Proofs.YtmeggliapebkgaaW.PrintLast Go.Proofs.YtmeggliapebkgaaW.PrintMore
attribute [local go_sem] max2_int min2_int max_two min_two max_three min_three max_four min_four   
set_option linter.unusedVariables false
set_option linter.unusedSimpArgs false
def spec_IsDesk.f (k : Nat) (l0_0 : List Int) (a0_1 : Int) (l0_2 : List (S115)) (l0_3 : List Int) (l0_4 : List (List Int)) : Option (Bool) := (spec_l01Is.f k l0_0).bind fun t201002 => (if t201002 = true then ((spec_l03Is.f k a0_1 l0_2).bind fun t201003 => (if t201003 = true then ((spec_l06Is.f k l0_3 l0_4).bind fun t201004 => (some t201004)) else (some false))) else (some false))
theorem spec_IsDesk.mono : ∀ a0 a1 a2 a3 a4 k, LeO (spec_IsDesk.f k a0 a1 a2 a3 a4) (spec_IsDesk.f (k + 1) a0 a1 a2 a3 a4) := by
 intro a0 a1 a2 a3 a4 k
 unfold spec_IsDesk.f
 repeat' first
   | (with_reducible exact spec_l01Is.mono _ _)
   | (with_reducible exact spec_l03Is.mono _ _ _)
   | (with_reducible exact spec_l06Is.mono _ _ _)
   | (with_reducible exact LeO.refl _)
   | (with_reducible exact LeO.none _)
   | (with_reducible refine LeO.ite ?_ ?_)
   | (with_reducible refine LeO.bind ?_ (fun _ => ?_))
   | exact spec_l01Is.mono _ _
   | exact spec_l03Is.mono _ _ _
   | exact spec_l06Is.mono _ _ _
   | exact LeO.none _
   | refine LeO.ite ?_ ?_
   | refine LeO.bind ?_ (fun _ => ?_)
set_option maxHeartbeats 8000000 in
set_option maxRecDepth 100000 in
theorem spec_IsDesk.calls (k : Nat) (A0_0 : Option Addr) (c0_0 : Nat) (l0_0 : List Int) (a0_1 : Int) (A0_2 : Option Addr) (c0_2 : Nat) (l0_2 : List (S115)) (A0_3 : Option Addr) (c0_3 : Nat) (l0_3 : List Int) (A0_4 : Option Addr) (c0_4 : Nat) (l0_4 : List (List Int)) (r : Bool) (w : World) (hr0_0 : Kd.C (Kd.int .i64) w A0_0 l0_0.length l0_0) (hc0_0 : l0_0.length ≤ c0_0) (hr0_2 : Kd.C k115 w A0_2 l0_2.length l0_2) (hc0_2 : l0_2.length ≤ c0_2) (hr0_3 : Kd.C (Kd.int .i64) w A0_3 l0_3.length l0_3) (hc0_3 : l0_3.length ≤ c0_3) (hr0_4 : Kd.C (Kd.slice 2 (Kd.int .i64)) w A0_4 l0_4.length l0_4) (hc0_4 : l0_4.length ≤ c0_4) (h : spec_IsDesk.f k l0_0 a0_1 l0_2 l0_3 l0_4 = some r) :
  Calls Try.prog 20 #[.agg #[.slice A0_0 l0_0.length c0_0, .int .i64 a0_1, .slice A0_2 l0_2.length c0_2, .slice A0_3 l0_3.length c0_3, .slice A0_4 l0_4.length c0_4]] w fun e w' => e = .returned (.bool r) ∧ Below w.heap.size w w' := by
 have hu48 := Try.underlying48
 have hu46 := Try.underlying46
 have hu30 := Try.underlying30
 have HR0_0 := Aside0.mk hr0_0
 have HC0_0 := Aside0.mk hc0_0
 clear hr0_0 hc0_0
 have HR0_2 := Aside0.mk hr0_2
 have HC0_2 := Aside0.mk hc0_2
 clear hr0_2 hc0_2
 have HR0_3 := Aside0.mk hr0_3
 have HC0_3 := Aside0.mk hc0_3
 clear hr0_3 hc0_3
 have HR0_4 := Aside0.mk hr0_4
 have HC0_4 := Aside0.mk hc0_4
 clear hr0_4 hc0_4
 have HB := Aside0.mk (Below.refl w.heap.size w)
 have H : ((spec_l01Is.f k l0_0).bind fun t201002 => (if t201002 = true then ((spec_l03Is.f k a0_1 l0_2).bind fun t201003 => (if t201003 = true then ((spec_l06Is.f k l0_3 l0_4).bind fun t201004 => (some t201004)) else (some false))) else (some false))) = some r := h
 clear h
 replace H := Option.bind_eq_some_iff.mp H
 obtain ⟨t201002, A20, H⟩ := H
 replace H : (if t201002 = true then ((spec_l03Is.f k a0_1 l0_2).bind fun t201003 => (if t201003 = true then ((spec_l06Is.f k l0_3 l0_4).bind fun t201004 => (some t201004)) else (some false))) else (some false)) = some r := H
 have A2 := Aside0.mk A20
 clear A20
 by_cases c3 : t201002 = true
 rotate_left
 ·replace c3 := Bool.eq_false_iff.mpr c3
  subst c3
  have H1 : (some false) = some r := by rw [if_neg (show ¬ (false = true) by decide)] at H; exact H
  clear H
  have H := H1
  clear H1
  obtain rfl := Option.some.inj H
  go_enter Try.func20, Try.ntmps20
  go_wp2_with (first | ((with_reducible refine gate_dst (N := 1) rfl ?_); refine box_event ?hg (N := 1) ?hd (cs := #[.slice A0_0 l0_0.length c0_0, .int .i64 a0_1, .slice A0_2 l0_2.length c0_2, .slice A0_3 l0_3.length c0_3, .slice A0_4 l0_4.length c0_4]) (t := 48) ?hr ?_; (case hd => rfl); (case hg => rfl); (case hr => first | (go_simp; done) | (go_simp; rfl)); intro gb201001 hg w19 hbox hb; have n0_ := Aside0.mk (below_step (by repeat (first | (with_reducible first | exact HB.out | apply below_alloc | apply pw_below_drewN | apply below_drew1) | exact HB.out)) hb); have n1_ := Aside0.mk (hbox); have n2_ := Aside0.mk ((by rw [hg]; exact (below_size (by repeat (first | (with_reducible first | exact HB.out | apply below_alloc | apply pw_below_drewN | apply below_drew1) | exact HB.out))) : w.heap.size ≤ gb201001)); have n3_ := Aside0.mk ((by rw [hg]; exact (below_size (by repeat (first | (with_reducible first | exact HB.out | apply below_alloc | apply pw_below_drewN | apply below_drew1) | exact HB.out))) : w.heap.size ≤ gb201001)); clear HB; have HB := n0_; have BK201001 := n1_; have GW201001 := n2_; have GE201001 := n3_; clear n0_ n1_ n2_ n3_; clear hb hbox hg; have hcz20_0 : w19.cell? ⟨gb201001, 0, none⟩ = some (.slice A0_0 l0_0.length c0_0) := (blk_cell BK201001.out 0).trans rfl; have hcz20_1 : w19.cell? ⟨gb201001, 1, none⟩ = some (.int .i64 a0_1) := (blk_cell BK201001.out 1).trans rfl; have hcz20_2 : w19.cell? ⟨gb201001, 2, none⟩ = some (.slice A0_2 l0_2.length c0_2) := (blk_cell BK201001.out 2).trans rfl; have hcz20_3 : w19.cell? ⟨gb201001, 3, none⟩ = some (.slice A0_3 l0_3.length c0_3) := (blk_cell BK201001.out 3).trans rfl; have hcz20_4 : w19.cell? ⟨gb201001, 4, none⟩ = some (.slice A0_4 l0_4.length c0_4) := (blk_cell BK201001.out 4).trans rfl; have hfz20_0 := blk_frozen BK201001.out 0; have hfz20_1 := blk_frozen BK201001.out 1; have hfz20_2 := blk_frozen BK201001.out 2; have hfz20_3 := blk_frozen BK201001.out 3; have hfz20_4 := blk_frozen BK201001.out 4) | ((with_reducible refine gate_callee (f := 56) rfl ?_); refine goesL_ (some 5) rfl rfl Try.func56 (by kernel_rfl) rfl #[.slice A0_0 l0_0.length c0_0] rfl (by (try simp only [List.map_toArray, List.map_cons, List.map_nil]); first | done | rfl | (simp only [List.length_drop, List.length_take]; rfl)) ?_; (with_reducible refine (spec_l01Is.calls k _ _ l0_0 false _ ?side1 ?side2 A2.out).mono ?_); (case side1 => repeat (first | exact (Kd.C_below HR0_0.out HB.out) | (with_reducible refine Kd.C_alloc ?_ _) | (with_reducible refine Kd.C_drewN ?_ _) | (with_reducible refine Kd.C_drew ?_))); (case side2 => exact HC0_0.out); rintro e w21 ⟨rfl, hb⟩; refine ⟨_, rfl, ?_⟩; have n0_ := Aside0.mk (blk_below (g := gb201001) (o := .cells #[.slice A0_0 l0_0.length c0_0, .int .i64 a0_1, .slice A0_2 l0_2.length c0_2, .slice A0_3 l0_3.length c0_3, .slice A0_4 l0_4.length c0_4] 48 (0, 0)) (by (with_reducible repeat (first | refine blk_drewN ?_ _ | refine blk_drew ?_ | refine blk_alloc ?_ _)); exact BK201001.out) hb); have n1_ := Aside0.mk (below_step (by repeat (first | (with_reducible first | exact HB.out | apply below_alloc | apply pw_below_drewN | apply below_drew1 | refine below_set ?_ GE201001.out) | exact HB.out)) hb); clear BK201001; clear HB; have BK201001 := n0_; have HB := n1_; clear n0_ n1_; (try clear hb); (try clear hb2); (try clear hk); (try clear hi)))
  go_ret
  exact ⟨by first | rfl | (simp [errW_none, errW_some] <;> rfl) | (simp [*, errW_none, errW_some] <;> rfl), by repeat (first | (with_reducible first | exact HB.out | apply below_alloc | apply pw_below_drewN | apply below_drew1 | refine below_set ?_ GE201001.out) | exact HB.out)⟩
 subst c3
 have H1 : ((spec_l03Is.f k a0_1 l0_2).bind fun t201003 => (if t201003 = true then ((spec_l06Is.f k l0_3 l0_4).bind fun t201004 => (some t201004)) else (some false))) = some r := by rw [if_pos rfl] at H; exact H
 clear H
 have H := H1
 clear H1
 replace H := Option.bind_eq_some_iff.mp H
 obtain ⟨t201003, A40, H⟩ := H
 replace H : (if t201003 = true then ((spec_l06Is.f k l0_3 l0_4).bind fun t201004 => (some t201004)) else (some false)) = some r := H
 have A4 := Aside0.mk A40
 clear A40
 by_cases c5 : t201003 = true
 rotate_left
 ·replace c5 := Bool.eq_false_iff.mpr c5
  subst c5
  have H1 : (some false) = some r := by rw [if_neg (show ¬ (false = true) by decide)] at H; exact H
  clear H
  have H := H1
  clear H1
  obtain rfl := Option.some.inj H
  go_enter Try.func20, Try.ntmps20
  go_wp2_with (first | ((with_reducible refine gate_dst (N := 1) rfl ?_); refine box_event ?hg (N := 1) ?hd (cs := #[.slice A0_0 l0_0.length c0_0, .int .i64 a0_1, .slice A0_2 l0_2.length c0_2, .slice A0_3 l0_3.length c0_3, .slice A0_4 l0_4.length c0_4]) (t := 48) ?hr ?_; (case hd => rfl); (case hg => rfl); (case hr => first | (go_simp; done) | (go_simp; rfl)); intro gb201001 hg w14 hbox hb; have n0_ := Aside0.mk (below_step (by repeat (first | (with_reducible first | exact HB.out | apply below_alloc | apply pw_below_drewN | apply below_drew1) | exact HB.out)) hb); have n1_ := Aside0.mk (hbox); have n2_ := Aside0.mk ((by rw [hg]; exact (below_size (by repeat (first | (with_reducible first | exact HB.out | apply below_alloc | apply pw_below_drewN | apply below_drew1) | exact HB.out))) : w.heap.size ≤ gb201001)); have n3_ := Aside0.mk ((by rw [hg]; exact (below_size (by repeat (first | (with_reducible first | exact HB.out | apply below_alloc | apply pw_below_drewN | apply below_drew1) | exact HB.out))) : w.heap.size ≤ gb201001)); clear HB; have HB := n0_; have BK201001 := n1_; have GW201001 := n2_; have GE201001 := n3_; clear n0_ n1_ n2_ n3_; clear hb hbox hg; have hcz15_0 : w14.cell? ⟨gb201001, 0, none⟩ = some (.slice A0_0 l0_0.length c0_0) := (blk_cell BK201001.out 0).trans rfl; have hcz15_1 : w14.cell? ⟨gb201001, 1, none⟩ = some (.int .i64 a0_1) := (blk_cell BK201001.out 1).trans rfl; have hcz15_2 : w14.cell? ⟨gb201001, 2, none⟩ = some (.slice A0_2 l0_2.length c0_2) := (blk_cell BK201001.out 2).trans rfl; have hcz15_3 : w14.cell? ⟨gb201001, 3, none⟩ = some (.slice A0_3 l0_3.length c0_3) := (blk_cell BK201001.out 3).trans rfl; have hcz15_4 : w14.cell? ⟨gb201001, 4, none⟩ = some (.slice A0_4 l0_4.length c0_4) := (blk_cell BK201001.out 4).trans rfl; have hfz15_0 := blk_frozen BK201001.out 0; have hfz15_1 := blk_frozen BK201001.out 1; have hfz15_2 := blk_frozen BK201001.out 2; have hfz15_3 := blk_frozen BK201001.out 3; have hfz15_4 := blk_frozen BK201001.out 4) | ((with_reducible refine gate_callee (f := 56) rfl ?_); refine goesL_ (some 5) rfl rfl Try.func56 (by kernel_rfl) rfl #[.slice A0_0 l0_0.length c0_0] rfl (by (try simp only [List.map_toArray, List.map_cons, List.map_nil]); first | done | rfl | (simp only [List.length_drop, List.length_take]; rfl)) ?_; (with_reducible refine (spec_l01Is.calls k _ _ l0_0 true _ ?side1 ?side2 A2.out).mono ?_); (case side1 => repeat (first | exact (Kd.C_below HR0_0.out HB.out) | (with_reducible refine Kd.C_alloc ?_ _) | (with_reducible refine Kd.C_drewN ?_ _) | (with_reducible refine Kd.C_drew ?_))); (case side2 => exact HC0_0.out); rintro e w16 ⟨rfl, hb⟩; refine ⟨_, rfl, ?_⟩; have n0_ := Aside0.mk (blk_below (g := gb201001) (o := .cells #[.slice A0_0 l0_0.length c0_0, .int .i64 a0_1, .slice A0_2 l0_2.length c0_2, .slice A0_3 l0_3.length c0_3, .slice A0_4 l0_4.length c0_4] 48 (0, 0)) (by (with_reducible repeat (first | refine blk_drewN ?_ _ | refine blk_drew ?_ | refine blk_alloc ?_ _)); exact BK201001.out) hb); have n1_ := Aside0.mk (below_step (by repeat (first | (with_reducible first | exact HB.out | apply below_alloc | apply pw_below_drewN | apply below_drew1 | refine below_set ?_ GE201001.out) | exact HB.out)) hb); clear BK201001; clear HB; have BK201001 := n0_; have HB := n1_; clear n0_ n1_; (try clear hb); (try clear hb2); (try clear hk); (try clear hi); have hcz17_0 : w16.cell? ⟨gb201001, 0, none⟩ = some (.slice A0_0 l0_0.length c0_0) := (blk_cell BK201001.out 0).trans rfl; have hcz17_1 : w16.cell? ⟨gb201001, 1, none⟩ = some (.int .i64 a0_1) := (blk_cell BK201001.out 1).trans rfl; have hcz17_2 : w16.cell? ⟨gb201001, 2, none⟩ = some (.slice A0_2 l0_2.length c0_2) := (blk_cell BK201001.out 2).trans rfl; have hcz17_3 : w16.cell? ⟨gb201001, 3, none⟩ = some (.slice A0_3 l0_3.length c0_3) := (blk_cell BK201001.out 3).trans rfl; have hcz17_4 : w16.cell? ⟨gb201001, 4, none⟩ = some (.slice A0_4 l0_4.length c0_4) := (blk_cell BK201001.out 4).trans rfl; have hfz17_0 := blk_frozen BK201001.out 0; have hfz17_1 := blk_frozen BK201001.out 1; have hfz17_2 := blk_frozen BK201001.out 2; have hfz17_3 := blk_frozen BK201001.out 3; have hfz17_4 := blk_frozen BK201001.out 4) | (go_at_call 57; (with_reducible refine (spec_l03Is.calls k a0_1 _ _ l0_2 false _ ?side1 ?side2 A4.out).mono ?_); (case side1 => repeat (first | exact (Kd.C_below HR0_2.out HB.out) | (with_reducible refine Kd.C_alloc ?_ _) | (with_reducible refine Kd.C_drewN ?_ _) | (with_reducible refine Kd.C_drew ?_))); (case side2 => exact HC0_2.out); rintro e w18 ⟨rfl, hb⟩; have n0_ := Aside0.mk (blk_below (g := gb201001) (o := .cells #[.slice A0_0 l0_0.length c0_0, .int .i64 a0_1, .slice A0_2 l0_2.length c0_2, .slice A0_3 l0_3.length c0_3, .slice A0_4 l0_4.length c0_4] 48 (0, 0)) (by (with_reducible repeat (first | refine blk_drewN ?_ _ | refine blk_drew ?_ | refine blk_alloc ?_ _)); exact BK201001.out) hb); have n1_ := Aside0.mk (below_step (by repeat (first | (with_reducible first | exact HB.out | apply below_alloc | apply pw_below_drewN | apply below_drew1 | refine below_set ?_ GE201001.out) | exact HB.out)) hb); clear BK201001; clear HB; have BK201001 := n0_; have HB := n1_; clear n0_ n1_; (try clear hb); (try clear hb2); (try clear hk); (try clear hi)))
  go_ret
  exact ⟨by first | rfl | (simp [errW_none, errW_some] <;> rfl) | (simp [*, errW_none, errW_some] <;> rfl), by repeat (first | (with_reducible first | exact HB.out | apply below_alloc | apply pw_below_drewN | apply below_drew1 | refine below_set ?_ GE201001.out) | exact HB.out)⟩
 subst c5
 have H1 : ((spec_l06Is.f k l0_3 l0_4).bind fun t201004 => (some t201004)) = some r := by rw [if_pos rfl] at H; exact H
 clear H
 have H := H1
 clear H1
 replace H := Option.bind_eq_some_iff.mp H
 obtain ⟨t201004, A60, H⟩ := H
 replace H : (some t201004) = some r := H
 have A6 := Aside0.mk A60
 clear A60
 obtain rfl := Option.some.inj H
 go_enter Try.func20, Try.ntmps20
 go_wp2_with (first | ((with_reducible refine gate_dst (N := 1) rfl ?_); refine box_event ?hg (N := 1) ?hd (cs := #[.slice A0_0 l0_0.length c0_0, .int .i64 a0_1, .slice A0_2 l0_2.length c0_2, .slice A0_3 l0_3.length c0_3, .slice A0_4 l0_4.length c0_4]) (t := 48) ?hr ?_; (case hd => rfl); (case hg => rfl); (case hr => first | (go_simp; done) | (go_simp; rfl)); intro gb201001 hg w7 hbox hb; have n0_ := Aside0.mk (below_step (by repeat (first | (with_reducible first | exact HB.out | apply below_alloc | apply pw_below_drewN | apply below_drew1) | exact HB.out)) hb); have n1_ := Aside0.mk (hbox); have n2_ := Aside0.mk ((by rw [hg]; exact (below_size (by repeat (first | (with_reducible first | exact HB.out | apply below_alloc | apply pw_below_drewN | apply below_drew1) | exact HB.out))) : w.heap.size ≤ gb201001)); have n3_ := Aside0.mk ((by rw [hg]; exact (below_size (by repeat (first | (with_reducible first | exact HB.out | apply below_alloc | apply pw_below_drewN | apply below_drew1) | exact HB.out))) : w.heap.size ≤ gb201001)); clear HB; have HB := n0_; have BK201001 := n1_; have GW201001 := n2_; have GE201001 := n3_; clear n0_ n1_ n2_ n3_; clear hb hbox hg; have hcz8_0 : w7.cell? ⟨gb201001, 0, none⟩ = some (.slice A0_0 l0_0.length c0_0) := (blk_cell BK201001.out 0).trans rfl; have hcz8_1 : w7.cell? ⟨gb201001, 1, none⟩ = some (.int .i64 a0_1) := (blk_cell BK201001.out 1).trans rfl; have hcz8_2 : w7.cell? ⟨gb201001, 2, none⟩ = some (.slice A0_2 l0_2.length c0_2) := (blk_cell BK201001.out 2).trans rfl; have hcz8_3 : w7.cell? ⟨gb201001, 3, none⟩ = some (.slice A0_3 l0_3.length c0_3) := (blk_cell BK201001.out 3).trans rfl; have hcz8_4 : w7.cell? ⟨gb201001, 4, none⟩ = some (.slice A0_4 l0_4.length c0_4) := (blk_cell BK201001.out 4).trans rfl; have hfz8_0 := blk_frozen BK201001.out 0; have hfz8_1 := blk_frozen BK201001.out 1; have hfz8_2 := blk_frozen BK201001.out 2; have hfz8_3 := blk_frozen BK201001.out 3; have hfz8_4 := blk_frozen BK201001.out 4) | ((with_reducible refine gate_callee (f := 56) rfl ?_); refine goesL_ (some 5) rfl rfl Try.func56 (by kernel_rfl) rfl #[.slice A0_0 l0_0.length c0_0] rfl (by (try simp only [List.map_toArray, List.map_cons, List.map_nil]); first | done | rfl | (simp only [List.length_drop, List.length_take]; rfl)) ?_; (with_reducible refine (spec_l01Is.calls k _ _ l0_0 true _ ?side1 ?side2 A2.out).mono ?_); (case side1 => repeat (first | exact (Kd.C_below HR0_0.out HB.out) | (with_reducible refine Kd.C_alloc ?_ _) | (with_reducible refine Kd.C_drewN ?_ _) | (with_reducible refine Kd.C_drew ?_))); (case side2 => exact HC0_0.out); rintro e w9 ⟨rfl, hb⟩; refine ⟨_, rfl, ?_⟩; have n0_ := Aside0.mk (blk_below (g := gb201001) (o := .cells #[.slice A0_0 l0_0.length c0_0, .int .i64 a0_1, .slice A0_2 l0_2.length c0_2, .slice A0_3 l0_3.length c0_3, .slice A0_4 l0_4.length c0_4] 48 (0, 0)) (by (with_reducible repeat (first | refine blk_drewN ?_ _ | refine blk_drew ?_ | refine blk_alloc ?_ _)); exact BK201001.out) hb); have n1_ := Aside0.mk (below_step (by repeat (first | (with_reducible first | exact HB.out | apply below_alloc | apply pw_below_drewN | apply below_drew1 | refine below_set ?_ GE201001.out) | exact HB.out)) hb); clear BK201001; clear HB; have BK201001 := n0_; have HB := n1_; clear n0_ n1_; (try clear hb); (try clear hb2); (try clear hk); (try clear hi); have hcz10_0 : w9.cell? ⟨gb201001, 0, none⟩ = some (.slice A0_0 l0_0.length c0_0) := (blk_cell BK201001.out 0).trans rfl; have hcz10_1 : w9.cell? ⟨gb201001, 1, none⟩ = some (.int .i64 a0_1) := (blk_cell BK201001.out 1).trans rfl; have hcz10_2 : w9.cell? ⟨gb201001, 2, none⟩ = some (.slice A0_2 l0_2.length c0_2) := (blk_cell BK201001.out 2).trans rfl; have hcz10_3 : w9.cell? ⟨gb201001, 3, none⟩ = some (.slice A0_3 l0_3.length c0_3) := (blk_cell BK201001.out 3).trans rfl; have hcz10_4 : w9.cell? ⟨gb201001, 4, none⟩ = some (.slice A0_4 l0_4.length c0_4) := (blk_cell BK201001.out 4).trans rfl; have hfz10_0 := blk_frozen BK201001.out 0; have hfz10_1 := blk_frozen BK201001.out 1; have hfz10_2 := blk_frozen BK201001.out 2; have hfz10_3 := blk_frozen BK201001.out 3; have hfz10_4 := blk_frozen BK201001.out 4) | (go_at_call 57; (with_reducible refine (spec_l03Is.calls k a0_1 _ _ l0_2 true _ ?side1 ?side2 A4.out).mono ?_); (case side1 => repeat (first | exact (Kd.C_below HR0_2.out HB.out) | (with_reducible refine Kd.C_alloc ?_ _) | (with_reducible refine Kd.C_drewN ?_ _) | (with_reducible refine Kd.C_drew ?_))); (case side2 => exact HC0_2.out); rintro e w11 ⟨rfl, hb⟩; have n0_ := Aside0.mk (blk_below (g := gb201001) (o := .cells #[.slice A0_0 l0_0.length c0_0, .int .i64 a0_1, .slice A0_2 l0_2.length c0_2, .slice A0_3 l0_3.length c0_3, .slice A0_4 l0_4.length c0_4] 48 (0, 0)) (by (with_reducible repeat (first | refine blk_drewN ?_ _ | refine blk_drew ?_ | refine blk_alloc ?_ _)); exact BK201001.out) hb); have n1_ := Aside0.mk (below_step (by repeat (first | (with_reducible first | exact HB.out | apply below_alloc | apply pw_below_drewN | apply below_drew1 | refine below_set ?_ GE201001.out) | exact HB.out)) hb); clear BK201001; clear HB; have BK201001 := n0_; have HB := n1_; clear n0_ n1_; (try clear hb); (try clear hb2); (try clear hk); (try clear hi); have hcz12_0 : w11.cell? ⟨gb201001, 0, none⟩ = some (.slice A0_0 l0_0.length c0_0) := (blk_cell BK201001.out 0).trans rfl; have hcz12_1 : w11.cell? ⟨gb201001, 1, none⟩ = some (.int .i64 a0_1) := (blk_cell BK201001.out 1).trans rfl; have hcz12_2 : w11.cell? ⟨gb201001, 2, none⟩ = some (.slice A0_2 l0_2.length c0_2) := (blk_cell BK201001.out 2).trans rfl; have hcz12_3 : w11.cell? ⟨gb201001, 3, none⟩ = some (.slice A0_3 l0_3.length c0_3) := (blk_cell BK201001.out 3).trans rfl; have hcz12_4 : w11.cell? ⟨gb201001, 4, none⟩ = some (.slice A0_4 l0_4.length c0_4) := (blk_cell BK201001.out 4).trans rfl; have hfz12_0 := blk_frozen BK201001.out 0; have hfz12_1 := blk_frozen BK201001.out 1; have hfz12_2 := blk_frozen BK201001.out 2; have hfz12_3 := blk_frozen BK201001.out 3; have hfz12_4 := blk_frozen BK201001.out 4) | (go_at_call 45; (with_reducible refine (spec_l06Is.calls k _ _ l0_3 _ _ l0_4 t201004 _ ?side1 ?side2 ?side3 ?side4 A6.out).mono ?_); (case side1 => repeat (first | exact (Kd.C_below HR0_3.out HB.out) | (with_reducible refine Kd.C_alloc ?_ _) | (with_reducible refine Kd.C_drewN ?_ _) | (with_reducible refine Kd.C_drew ?_))); (case side2 => exact HC0_3.out); (case side3 => repeat (first | exact (Kd.C_below HR0_4.out HB.out) | (with_reducible refine Kd.C_alloc ?_ _) | (with_reducible refine Kd.C_drewN ?_ _) | (with_reducible refine Kd.C_drew ?_))); (case side4 => exact HC0_4.out); rintro e w13 ⟨rfl, hb⟩; have n0_ := Aside0.mk (blk_below (g := gb201001) (o := .cells #[.slice A0_0 l0_0.length c0_0, .int .i64 a0_1, .slice A0_2 l0_2.length c0_2, .slice A0_3 l0_3.length c0_3, .slice A0_4 l0_4.length c0_4] 48 (0, 0)) (by (with_reducible repeat (first | refine blk_drewN ?_ _ | refine blk_drew ?_ | refine blk_alloc ?_ _)); exact BK201001.out) hb); have n1_ := Aside0.mk (below_step (by repeat (first | (with_reducible first | exact HB.out | apply below_alloc | apply pw_below_drewN | apply below_drew1 | refine below_set ?_ GE201001.out) | exact HB.out)) hb); clear BK201001; clear HB; have BK201001 := n0_; have HB := n1_; clear n0_ n1_; (try clear hb); (try clear hb2); (try clear hk); (try clear hi)))
 go_ret
 exact ⟨by first | rfl | (simp [errW_none, errW_some] <;> rfl) | (simp [*, errW_none, errW_some] <;> rfl), by repeat (first | (with_reducible first | exact HB.out | apply below_alloc | apply pw_below_drewN | apply below_drew1 | refine below_set ?_ GE201001.out) | exact HB.out)⟩
end Go.Proofs.Ytmeggliapebkgaa.F
end
section
namespace Go.Proofs.Ytmeggliapebkgaa.F
open Go.RowKit Go.Proofs.YtmeggliapebkgaaW.PrintWords Go.Proofs.YtmeggliapebkgaaW.PrintLast Go.Proofs.YtmeggliapebkgaaW.PrintMore
attribute [local go_sem] max2_int min2_int max_two min_two max_three min_three max_four min_four   
set_option linter.unusedVariables false
set_option linter.unusedSimpArgs false
def laws_toTerm.f (k : Nat) (l0_0 : List Int) (a0_1 : Int) : Option (List Int × Int) := (laws_toInt64S.f k l0_0).bind fun t1331004 => (some (t1331004, a0_1))
theorem laws_toTerm.mono : ∀ a0 a1 k, LeO (laws_toTerm.f k a0 a1) (laws_toTerm.f (k + 1) a0 a1) := by
  intro a0 a1 k
  unfold laws_toTerm.f
  repeat' first
      | (with_reducible exact laws_toInt64S.mono _ _)
      | (with_reducible exact LeO.refl _)
      | (with_reducible exact LeO.none _)
      | (with_reducible refine LeO.ite ?_ ?_)
      | (with_reducible refine LeO.bind ?_ (fun _ => ?_))
      | exact laws_toInt64S.mono _ _
      | exact LeO.none _
      | refine LeO.ite ?_ ?_
      | refine LeO.bind ?_ (fun _ => ?_)
set_option maxHeartbeats 8000000 in
set_option maxRecDepth 100000 in
theorem laws_toTerm.calls (k : Nat) (A0_0 : Option Addr) (c0_0 : Nat) (l0_0 : List Int) (a0_1 : Int) (r1 : List Int) (r2 : Int) (w : World) (hr0_0 : Kd.C (Kd.int .i64) w A0_0 l0_0.length l0_0) (hc0_0 : l0_0.length ≤ c0_0) (h : laws_toTerm.f k l0_0 a0_1 = some (r1, r2)) :
    Calls Try.prog 133 #[.agg #[.slice A0_0 l0_0.length c0_0, .int .i64 a0_1]] w fun e w' => ∃ v0_ : Value, e = .returned (.agg #[v0_, .int .i64 r2]) ∧ Kd.R (Kd.int .i64) 2 w' w.heap.size (fun _ => True) v0_ r1 ∧ Below w.heap.size w w' := by
  have hu131 := Try.underlying131
  have hu115 := Try.underlying115
  have HR0_0 := Aside0.mk hr0_0
  have HC0_0 := Aside0.mk hc0_0
  clear hr0_0 hc0_0
  have HB := Aside0.mk (Below.refl w.heap.size w)
  have H : ((laws_toInt64S.f k l0_0).bind fun t1331004 => (some (t1331004, a0_1))) = some (r1, r2) := h
  clear h
  replace H := Option.bind_eq_some_iff.mp H
  obtain ⟨t1331004, A20, H⟩ := H
  replace H : (some (t1331004, a0_1)) = some (r1, r2) := H
  have A2 := Aside0.mk A20
  clear A20
  simp only [Option.some.injEq, Prod.mk.injEq] at H
  obtain ⟨rfl, rfl⟩ := H
  go_enter Try.func133, Try.ntmps133
  go_wp2_with (first | ((with_reducible refine gate_dst (N := 1) rfl ?_); refine box_event ?hg (N := 1) ?hd (cs := #[.slice A0_0 l0_0.length c0_0, .int .i64 a0_1]) (t := 131) ?hr ?_; (case hd => rfl); (case hg => rfl); (case hr => first | (go_simp; done) | (go_simp; rfl)); intro gb1331001 hg w3 hbox hb; have n0_ := Aside0.mk (below_step (by repeat (first | (with_reducible first | exact HB.out | apply below_alloc | apply pw_below_drewN | apply below_drew1) | exact HB.out)) hb); have n1_ := Aside0.mk (hbox); have n2_ := Aside0.mk ((by rw [hg]; exact (below_size (by repeat (first | (with_reducible first | exact HB.out | apply below_alloc | apply pw_below_drewN | apply below_drew1) | exact HB.out))) : w.heap.size ≤ gb1331001)); have n3_ := Aside0.mk ((by rw [hg]; exact (below_size (by repeat (first | (with_reducible first | exact HB.out | apply below_alloc | apply pw_below_drewN | apply below_drew1) | exact HB.out))) : w.heap.size ≤ gb1331001)); clear HB; have HB := n0_; have BK1331001 := n1_; have GW1331001 := n2_; have GE1331001 := n3_; clear n0_ n1_ n2_ n3_; clear hb hbox hg) | ((with_reducible refine gate_dst (N := 2) rfl ?_); refine box_event ?hg (N := 2) ?hd (cs := #[.slice none 0 0, .int .i64 0]) (t := 115) ?hr ?_; (case hd => rfl); (case hg => rfl); (case hr => first | (go_simp; done) | (go_simp; rfl)); intro gb1331002 hg w4 hbox hb; have n0_ := Aside0.mk (blk_below (g := gb1331001) (o := .cells #[.slice A0_0 l0_0.length c0_0, .int .i64 a0_1] 131 (0, 0)) (by (with_reducible repeat (first | refine blk_drewN ?_ _ | refine blk_drew ?_ | refine blk_alloc ?_ _)); exact BK1331001.out) hb); have n1_ := Aside0.mk (below_step (by repeat (first | (with_reducible first | exact HB.out | apply below_alloc | apply pw_below_drewN | apply below_drew1 | refine below_set ?_ GE1331001.out) | exact HB.out)) hb); have n2_ := Aside0.mk (hbox); have n3_ := Aside0.mk ((by rw [hg]; exact (below_size (by repeat (first | (with_reducible first | exact HB.out | apply below_alloc | apply pw_below_drewN | apply below_drew1 | refine below_set ?_ GE1331001.out) | exact HB.out))) : w.heap.size ≤ gb1331002)); have n4_ := Aside0.mk ((by rw [hg]; exact (below_size (by repeat (first | (with_reducible first | exact HB.out | apply below_alloc | apply pw_below_drewN | apply below_drew1 | refine below_set ?_ GE1331001.out) | exact HB.out))) : w.heap.size ≤ gb1331002)); have n5_ := Aside0.mk ((by rw [hg]; exact Nat.ne_of_lt (blk_lt (g := gb1331001) (o := .cells #[.slice A0_0 l0_0.length c0_0, .int .i64 a0_1] 131 (0, 0)) (by (with_reducible repeat (first | refine blk_drewN ?_ _ | refine blk_drew ?_ | refine blk_alloc ?_ _)); exact BK1331001.out)) : gb1331001 ≠ gb1331002)); have n6_ := Aside0.mk ((by rw [hg]; exact Nat.ne_of_gt (blk_lt (g := gb1331001) (o := .cells #[.slice A0_0 l0_0.length c0_0, .int .i64 a0_1] 131 (0, 0)) (by (with_reducible repeat (first | refine blk_drewN ?_ _ | refine blk_drew ?_ | refine blk_alloc ?_ _)); exact BK1331001.out)) : gb1331002 ≠ gb1331001)); clear BK1331001; clear HB; have BK1331001 := n0_; have HB := n1_; have BK1331002 := n2_; have GW1331002 := n3_; have GE1331002 := n4_; have NB1331001_1331002 := n5_; have NB1331002_1331001 := n6_; clear n0_ n1_ n2_ n3_ n4_ n5_ n6_; clear hb hbox hg) | ((with_reducible refine gate_dst (N := 3) rfl ?_); refine box_event ?hg (N := 3) ?hd (cs := #[.slice none 0 0, .int .i64 0]) (t := 115) ?hr ?_; (case hd => rfl); (case hg => rfl); (case hr => first | (go_simp; done) | (go_simp; rfl)); intro gb1331003 hg w5 hbox hb; have n0_ := Aside0.mk (blk_below (g := gb1331001) (o := .cells #[.slice A0_0 l0_0.length c0_0, .int .i64 a0_1] 131 (0, 0)) (by (with_reducible repeat (first | refine blk_drewN ?_ _ | refine blk_drew ?_ | refine blk_alloc ?_ _)); exact BK1331001.out) hb); have n1_ := Aside0.mk (blk_below (g := gb1331002) (o := .cells #[.slice none 0 0, .int .i64 0] 115 (0, 0)) (by (with_reducible repeat (first | refine blk_drewN ?_ _ | refine blk_drew ?_ | refine blk_alloc ?_ _)); exact BK1331002.out) hb); have n2_ := Aside0.mk (below_step (by repeat (first | (with_reducible first | exact HB.out | apply below_alloc | apply pw_below_drewN | apply below_drew1 | refine below_set ?_ GE1331001.out | refine below_set ?_ GE1331002.out) | exact HB.out)) hb); have n3_ := Aside0.mk (hbox); have n4_ := Aside0.mk ((by rw [hg]; exact (below_size (by repeat (first | (with_reducible first | exact HB.out | apply below_alloc | apply pw_below_drewN | apply below_drew1 | refine below_set ?_ GE1331001.out | refine below_set ?_ GE1331002.out) | exact HB.out))) : w.heap.size ≤ gb1331003)); have n5_ := Aside0.mk ((by rw [hg]; exact (below_size (by repeat (first | (with_reducible first | exact HB.out | apply below_alloc | apply pw_below_drewN | apply below_drew1 | refine below_set ?_ GE1331001.out | refine below_set ?_ GE1331002.out) | exact HB.out))) : w.heap.size ≤ gb1331003)); have n6_ := Aside0.mk ((by rw [hg]; exact Nat.ne_of_lt (blk_lt (g := gb1331001) (o := .cells #[.slice A0_0 l0_0.length c0_0, .int .i64 a0_1] 131 (0, 0)) (by (with_reducible repeat (first | refine blk_drewN ?_ _ | refine blk_drew ?_ | refine blk_alloc ?_ _)); exact BK1331001.out)) : gb1331001 ≠ gb1331003)); have n7_ := Aside0.mk ((by rw [hg]; exact Nat.ne_of_gt (blk_lt (g := gb1331001) (o := .cells #[.slice A0_0 l0_0.length c0_0, .int .i64 a0_1] 131 (0, 0)) (by (with_reducible repeat (first | refine blk_drewN ?_ _ | refine blk_drew ?_ | refine blk_alloc ?_ _)); exact BK1331001.out)) : gb1331003 ≠ gb1331001)); have n8_ := Aside0.mk ((by rw [hg]; exact Nat.ne_of_lt (blk_lt (g := gb1331002) (o := .cells #[.slice none 0 0, .int .i64 0] 115 (0, 0)) (by (with_reducible repeat (first | refine blk_drewN ?_ _ | refine blk_drew ?_ | refine blk_alloc ?_ _)); exact BK1331002.out)) : gb1331002 ≠ gb1331003)); have n9_ := Aside0.mk ((by rw [hg]; exact Nat.ne_of_gt (blk_lt (g := gb1331002) (o := .cells #[.slice none 0 0, .int .i64 0] 115 (0, 0)) (by (with_reducible repeat (first | refine blk_drewN ?_ _ | refine blk_drew ?_ | refine blk_alloc ?_ _)); exact BK1331002.out)) : gb1331003 ≠ gb1331002)); clear BK1331001; clear BK1331002; clear HB; have BK1331001 := n0_; have BK1331002 := n1_; have HB := n2_; have BK1331003 := n3_; have GW1331003 := n4_; have GE1331003 := n5_; have NB1331001_1331003 := n6_; have NB1331003_1331001 := n7_; have NB1331002_1331003 := n8_; have NB1331003_1331002 := n9_; clear n0_ n1_ n2_ n3_ n4_ n5_ n6_ n7_ n8_ n9_; clear hb hbox hg; have hnb6 := NB1331001_1331002.out; have hnc6 := NB1331002_1331001.out; have hnb7 := NB1331001_1331003.out; have hnc7 := NB1331003_1331001.out; have hcz8_0 : w5.cell? ⟨gb1331001, 0, none⟩ = some (.slice A0_0 l0_0.length c0_0) := (blk_cell BK1331001.out 0).trans rfl; have hcz8_1 : w5.cell? ⟨gb1331001, 1, none⟩ = some (.int .i64 a0_1) := (blk_cell BK1331001.out 1).trans rfl; have hfz8_0 := blk_frozen BK1331001.out 0; have hfz8_1 := blk_frozen BK1331001.out 1) | ((with_reducible refine gate_callee (f := 25) rfl ?_); refine goesL_ (some 6) rfl rfl Try.func25 (by kernel_rfl) rfl #[.slice A0_0 l0_0.length c0_0] rfl (by (try simp only [List.map_toArray, List.map_cons, List.map_nil]); first | done | rfl | (simp only [List.length_drop, List.length_take]; rfl)) ?_; (with_reducible refine (laws_toInt64S.calls k _ _ l0_0 t1331004 _ ?side1 ?side2 A2.out).mono ?_); (case side1 => repeat (first | exact (Kd.C_below HR0_0.out HB.out) | (with_reducible refine Kd.C_alloc ?_ _) | (with_reducible refine Kd.C_drewN ?_ _) | (with_reducible refine Kd.C_drew ?_))); (case side2 => exact HC0_0.out); rintro e w9 ⟨v1331005, rfl, ho0, hb⟩; refine ⟨_, rfl, ?_⟩; have n0_ := Aside0.mk (Kd.R_lower ho0 (below_size (by repeat (first | (with_reducible first | exact HB.out | apply below_alloc | apply pw_below_drewN | apply below_drew1 | refine below_set ?_ GE1331001.out | refine below_set ?_ GE1331002.out | refine below_set ?_ GE1331003.out) | exact HB.out)))); have n1_ := Aside0.mk (blk_below (g := gb1331001) (o := .cells #[.slice A0_0 l0_0.length c0_0, .int .i64 a0_1] 131 (0, 0)) (by (with_reducible repeat (first | refine blk_drewN ?_ _ | refine blk_drew ?_ | refine blk_alloc ?_ _)); exact BK1331001.out) hb); have n2_ := Aside0.mk (blk_below (g := gb1331002) (o := .cells #[.slice none 0 0, .int .i64 0] 115 (0, 0)) (by (with_reducible repeat (first | refine blk_drewN ?_ _ | refine blk_drew ?_ | refine blk_alloc ?_ _)); exact BK1331002.out) hb); have n3_ := Aside0.mk (blk_below (g := gb1331003) (o := .cells #[.slice none 0 0, .int .i64 0] 115 (0, 0)) (by (with_reducible repeat (first | refine blk_drewN ?_ _ | refine blk_drew ?_ | refine blk_alloc ?_ _)); exact BK1331003.out) hb); have n4_ := Aside0.mk (below_step (by repeat (first | (with_reducible first | exact HB.out | apply below_alloc | apply pw_below_drewN | apply below_drew1 | refine below_set ?_ GE1331001.out | refine below_set ?_ GE1331002.out | refine below_set ?_ GE1331003.out) | exact HB.out)) hb); clear BK1331001; clear BK1331002; clear BK1331003; clear HB; have HO1331006 := n0_; have BK1331001 := n1_; have BK1331002 := n2_; have BK1331003 := n3_; have HB := n4_; clear n0_ n1_ n2_ n3_ n4_; (try clear hb); (try clear hb2); (try clear hk); (try clear hi); (try clear ho0); obtain ⟨Ao10, co10, eo10⟩ := Kd.R_slice HO1331006.out; subst eo10; have hnb11 := NB1331003_1331002.out; have hnc11 := NB1331002_1331003.out; have hcz12_0 : w9.cell? ⟨gb1331003, 0, none⟩ = some (.slice none 0 0) := (blk_cell BK1331003.out 0).trans rfl; have hcz12_1 : w9.cell? ⟨gb1331003, 1, none⟩ = some (.int .i64 0) := (blk_cell BK1331003.out 1).trans rfl; have hfz12_0 := blk_frozen BK1331003.out 0; have hfz12_1 := blk_frozen BK1331003.out 1; have hcz13_0 : w9.cell? ⟨gb1331001, 0, none⟩ = some (.slice A0_0 l0_0.length c0_0) := (blk_cell BK1331001.out 0).trans rfl; have hcz13_1 : w9.cell? ⟨gb1331001, 1, none⟩ = some (.int .i64 a0_1) := (blk_cell BK1331001.out 1).trans rfl; have hfz13_0 := blk_frozen BK1331001.out 0; have hfz13_1 := blk_frozen BK1331001.out 1; have hcz14_0 : w9.cell? ⟨gb1331002, 0, none⟩ = some (.slice none 0 0) := (blk_cell BK1331002.out 0).trans rfl; have hcz14_1 : w9.cell? ⟨gb1331002, 1, none⟩ = some (.int .i64 0) := (blk_cell BK1331002.out 1).trans rfl; have hfz14_0 := blk_frozen BK1331002.out 0; have hfz14_1 := blk_frozen BK1331002.out 1))
  refine bodyPost_ret (results_cell_row rfl _ _ gb1331002 115 #[.slice Ao10 t1331004.length co10, .int .i64 a0_1] (0, 0) _ rfl (by (with_reducible repeat (first | refine blk_drewN ?_ _ | refine blk_drew ?_ | refine blk_alloc ?_ _)); refine blk_put (cs := #[.slice Ao10 t1331004.length co10, .int .i64 0]) ?_ 1 _ rfl; (with_reducible repeat (first | refine blk_drewN ?_ _ | refine blk_drew ?_ | refine blk_alloc ?_ _)); refine blk_put (cs := #[.slice none 0 0, .int .i64 0]) ?_ 0 _ rfl; (with_reducible repeat (first | refine blk_drewN ?_ _ | refine blk_drew ?_ | refine blk_alloc ?_ _)); refine blk_far ?_ NB1331002_1331003.out _; (with_reducible repeat (first | refine blk_drewN ?_ _ | refine blk_drew ?_ | refine blk_alloc ?_ _)); refine blk_far ?_ NB1331002_1331003.out _; (with_reducible repeat (first | refine blk_drewN ?_ _ | refine blk_drew ?_ | refine blk_alloc ?_ _)); exact BK1331002.out) Try.underlying115 rfl (by kernel_rfl)) rfl ?_
  exact ⟨_, by first | rfl | (simp [errW_none, errW_some] <;> rfl) | (simp [*, errW_none, errW_some] <;> rfl), by (with_reducible repeat (first | apply Kd.R_alloc | apply Kd.R_drewN | apply Kd.R_drew)); exact Kd.R_mono (Kd.R_far (p := ⟨gb1331002, 1, none⟩) (Kd.R_far (p := ⟨gb1331002, 0, none⟩) (Kd.R_far (p := ⟨gb1331003, 1, none⟩) (Kd.R_far (p := ⟨gb1331003, 0, none⟩) (Kd.R_types (Kd.R_types HO1331006.out BK1331003.out (by decide)) BK1331002.out (by decide)) (fun _ hk => hk.1.2) (.slice Ao10 t1331004.length co10)) (fun _ hk => hk.1.2) (.int .i64 a0_1)) (fun _ hk => hk.2) (.slice Ao10 t1331004.length co10)) (fun _ hk => hk.2) (.int .i64 a0_1)) (fun _ hk => trivial), by repeat (first | (with_reducible first | exact HB.out | apply below_alloc | apply pw_below_drewN | apply below_drew1 | refine below_set ?_ GE1331001.out | refine below_set ?_ GE1331002.out | refine below_set ?_ GE1331003.out) | exact HB.out)⟩
end Go.Proofs.Ytmeggliapebkgaa.F
end
section
namespace Go.Proofs.Ytmeggliapebkgaa.F
open Go.RowKit Go.Proofs.YtmeggliapebkgaaW.PrintWords Go.Proofs.YtmeggliapebkgaaW.PrintLast Go.Proofs.YtmeggliapebkgaaW.PrintMore
attribute [local go_sem] max2_int min2_int max_two min_two max_three min_three max_four min_four   
set_option linter.unusedVariables false
set_option linter.unusedSimpArgs false
def laws_toTermS.l0 : Nat → List (S131) → List (S115) → Int → Option ((List (S115)))
 | 0, _, _, _ => none
 | k + 1, x0, x3, x4 => if x4 < (x0.length : Int) then (if 0 ≤ x4 then ((laws_toTerm.f k ((rd_T131 x0 x4).f0) ((rd_T131 x0 x4).f1)).bind fun bt731005 => (if x4 < (x3.length : Int) then (laws_toTermS.l0 k x0 (x3.set (x4 : Int).toNat (⟨bt731005.1, bt731005.2⟩ : S115)) (wrap64 (x4 + 1))) else (none))) else (none)) else (some x3)
def laws_toTermS.f (k : Nat) (l0 : List (S131)) : Option ((List (S115))) := if 0 ≤ (l0.length : Int) then (if ((l0.length : Int) : Int).toNat ≤ 8796093022208 then (laws_toTermS.l0 k l0 (List.replicate ((l0.length : Int) : Int).toNat z115) 0) else (none)) else (none)
theorem laws_toTermS.mono_l : ∀ k, (∀ y0 y1 y2, LeO (laws_toTermS.l0 k y0 y1 y2) (laws_toTermS.l0 (k + 1) y0 y1 y2))
 | 0 => fun _ _ _ r h => by simp [laws_toTermS.l0] at h
 | k + 1 => by
  have ih0 := laws_toTermS.mono_l k
  ·intro y0 y1 y2
   unfold laws_toTermS.l0
   repeat' first
   | (with_reducible exact ih0 _ _ _)
   | (with_reducible exact laws_toTerm.mono _ _ _)
   | (with_reducible exact LeO.refl _)
   | (with_reducible exact LeO.none _)
   | (with_reducible refine LeO.ite ?_ ?_)
   | (with_reducible refine LeO.bind ?_ (fun _ => ?_))
   | exact ih0 _ _ _
   | exact laws_toTerm.mono _ _ _
   | exact LeO.none _
   | refine LeO.ite ?_ ?_
   | refine LeO.bind ?_ (fun _ => ?_)
theorem laws_toTermS.mono : ∀ a0 k, LeO (laws_toTermS.f k a0) (laws_toTermS.f (k + 1) a0) := by
 intro a0 k
 have ih0 := laws_toTermS.mono_l k
 unfold laws_toTermS.f
 repeat' first
   | (with_reducible exact ih0 _ _ _)
   | (with_reducible exact laws_toTerm.mono _ _ _)
   | (with_reducible exact LeO.refl _)
   | (with_reducible exact LeO.none _)
   | (with_reducible refine LeO.ite ?_ ?_)
   | (with_reducible refine LeO.bind ?_ (fun _ => ?_))
   | exact ih0 _ _ _
   | exact laws_toTerm.mono _ _ _
   | exact LeO.none _
   | refine LeO.ite ?_ ?_
   | refine LeO.bind ?_ (fun _ => ?_)
set_option maxHeartbeats 8000000 in
set_option maxRecDepth 100000 in
theorem laws_toTermS.calls (k : Nat) (A0 : Option Addr) (c0 : Nat) (l0 : List (S131)) (r : List (S115)) (w : World) (hr0 : Kd.C k131 w A0 l0.length l0) (hc0 : l0.length ≤ c0) (h : laws_toTermS.f k l0 = some r) :
  Calls Try.prog 73 #[.slice A0 l0.length c0] w fun e w' => ∃ v0_ : Value, e = .returned (v0_) ∧ Kd.S k115 115 w' w.heap.size (fun _ => True) v0_ r ∧ Below w.heap.size w w' := by
 have hu131 := Try.underlying131
 have hu115 := Try.underlying115
 have HR0 := Aside0.mk hr0
 have HC0 := Aside0.mk hc0
 clear hr0 hc0
 have HB := Aside0.mk (Below.refl w.heap.size w)
 have H : (if 0 ≤ (l0.length : Int) then (if ((l0.length : Int) : Int).toNat ≤ 8796093022208 then (laws_toTermS.l0 k l0 (List.replicate ((l0.length : Int) : Int).toNat z115) 0) else (none)) else (none)) = some r := h
 clear h
 by_cases c2 : 0 ≤ (l0.length : Int)
 rotate_left
 ·rw [if_neg c2] at H
  exact absurd H (by simp)
 rw [if_pos c2] at H
 have c2b0 := eq_true c2
 have c2b1 : decide (0 ≤ (l0.length : Int)) = true := decide_eq_true c2
 clear c2
 by_cases c3 : ((l0.length : Int) : Int).toNat ≤ 8796093022208
 rotate_left
 ·rw [if_neg c3] at H
  exact absurd H (by simp)
 rw [if_pos c3] at H
 have c3b0 := eq_true c3
 have c3b1 : decide (((l0.length : Int) : Int).toNat ≤ 8796093022208) = true := decide_eq_true c3
 clear c3
 obtain ⟨y731001, hy731001⟩ : ∃ y_ : List (S115), y_ = (List.replicate ((l0.length : Int) : Int).toNat z115) := ⟨_, rfl⟩
 replace H : (laws_toTermS.l0 k l0 y731001 0) = some r := by first | (rw [hy731001]; with_reducible exact H) | (have H2_ := (Option.bind_some _ _).symm.trans H; rw [hy731001]; with_reducible exact H2_) | (have H2_ := (Option.bind_some _ _).symm.trans H; with_reducible exact H2_) | with_reducible exact H | (rw [hy731001]; exact H) | exact H
 have Ny731001 := Aside0.mk hy731001
 clear hy731001
 have H' := Aside0.mk H
 clear H
 go_enter Try.func73, Try.ntmps73
 go_wp2_with (first | ((with_reducible refine gate_dst (N := 7) rfl ?_); refine Kd.S_make k115 _ 115 rfl (N := 7) rfl 44 _ _ rfl (l0.length : Int) rfl rfl Try.underlying44 (.agg #[(.slice none 0 0), (.int .i64 0)]) 32 info115 rfl (by decide) (by omega) z115 (ok := fun _ => True) (okp := fun _ => True) (k115_mkM _ _ _ z115 (Kd.R_nil _ _ _ _ _)) (fun _ hk => hk) trivial (of_decide_eq_true (by first | (with_reducible assumption) | assumption)) (Nat.le_trans (Nat.mul_le_mul_right _ (of_decide_eq_true (by first | (with_reducible assumption) | assumption) : (l0.length : Int).toNat ≤ 8796093022208)) (by omega)) (Below.refl _ _) (Nat.le_refl _) ?_; intro v731002 w4 ho5 hb hg_ hnew_; clear hg_ hnew_; (first | rw [← Ny731001.out] at ho5 | (simp only [Int.reduceToNat] at ho5; rw [← Ny731001.out] at ho5)); have n0_ := Aside0.mk (Kd.S_lower ho5 (below_size (by repeat (first | (with_reducible first | exact HB.out | apply below_alloc | apply pw_below_drewN | apply below_drew1) | exact HB.out)))); have n1_ := Aside0.mk (below_step (by repeat (first | (with_reducible first | exact HB.out | apply below_alloc | apply pw_below_drewN | apply below_drew1) | exact HB.out)) hb); clear HB; have HO731003 := n0_; have HB := n1_; clear n0_ n1_; clear hb ho5))
 go_loopg [4] k (fun kq v4 w' => ∃ (x3_1 : List (S115)) (x4_1 : Int), v4 = .int .i64 x4_1 ∧ Aside0 (laws_toTermS.l0 kq l0 x3_1 x4_1 = some r) ∧ Aside0 (kq ≤ k) ∧ Aside0 (Kd.S k115 115 w' w.heap.size (fun _ => True) v731002 x3_1) ∧ Aside0 (Below w.heap.size w w'))
 case atStart => exact ⟨(y731001), (0), (by first | rfl | (simp; done) | (simp [*]; done)), H', ⟨Nat.le_refl _⟩, ⟨by (with_reducible repeat (first | apply Kd.S_alloc | apply Kd.S_drewN | apply Kd.S_drew)); exact HO731003.out⟩, ⟨by repeat (first | (with_reducible first | exact HB.out | apply below_alloc | apply pw_below_drewN | apply below_drew1) | exact HB.out)⟩⟩
 case round =>
  clear H'
  try clear c2
  try clear c2b0
  try clear c2b1
  try clear p2
  try clear c3
  try clear c3b0
  try clear c3b1
  obtain ⟨x3_1, x4_1, rfl, HA, HK1, HO_3, HB⟩ := hrel
  cases gk with
  | zero => exact absurd HA.out (by simp [laws_toTermS.l0])
  | succ k1 =>
   have H := HA.out
   clear HA
   simp only [laws_toTermS.l0] at H
   by_cases c6 : x4_1 < (l0.length : Int)
   rotate_left
   ·rw [if_neg c6] at H
    have c6b0 : decide (x4_1 < (l0.length : Int)) = false := decide_eq_false c6
    clear c6
    obtain rfl := Option.some.inj H
    go_wp2
    go_ret
    exact ⟨_, by first | rfl | (simp [errW_none, errW_some] <;> rfl) | (simp [*, errW_none, errW_some] <;> rfl), by (with_reducible repeat (first | apply Kd.S_alloc | apply Kd.S_drewN | apply Kd.S_drew)); exact HO_3.out, by repeat (first | (with_reducible first | exact HB.out | apply below_alloc | apply pw_below_drewN | apply below_drew1) | exact HB.out)⟩
   rw [if_pos c6] at H
   have c6b0 : decide (x4_1 < (l0.length : Int)) = true := decide_eq_true c6
   clear c6
   by_cases c7 : 0 ≤ x4_1
   rotate_left
   ·rw [if_neg c7] at H
    exact absurd H (by simp)
   rw [if_pos c7] at H
   have c7b0 : decide (0 ≤ x4_1) = true := decide_eq_true c7
   clear c7
   replace H := Option.bind_eq_some_iff.mp H
   obtain ⟨⟨t731005, t731008⟩, A80, H⟩ := H
   replace H : (if x4_1 < (x3_1.length : Int) then (laws_toTermS.l0 k1 l0 (x3_1.set (x4_1 : Int).toNat (⟨t731005, t731008⟩ : S115)) (wrap64 (x4_1 + 1))) else (none)) = some r := H
   have A8 := Aside0.mk A80
   clear A80
   by_cases c9 : x4_1 < (x3_1.length : Int)
   rotate_left
   ·rw [if_neg c9] at H
    exact absurd H (by simp)
   rw [if_pos c9] at H
   have c9b0 : decide (x4_1 < (x3_1.length : Int)) = true := decide_eq_true c9
   clear c9
   obtain ⟨y731009, hy731009⟩ : ∃ y_ : List (S115), y_ = (x3_1.set (x4_1 : Int).toNat (⟨t731005, t731008⟩ : S115)) := ⟨_, rfl⟩
   replace H : (laws_toTermS.l0 k1 l0 y731009 (wrap64 (x4_1 + 1))) = some r := by first | (rw [hy731009]; with_reducible exact H) | (have H2_ := (Option.bind_some _ _).symm.trans H; rw [hy731009]; with_reducible exact H2_) | (have H2_ := (Option.bind_some _ _).symm.trans H; with_reducible exact H2_) | with_reducible exact H | (rw [hy731009]; exact H) | exact H
   have Ny731009 := Aside0.mk hy731009
   clear hy731009
   have H' := Aside0.mk H
   clear H
   have p731004 : 0 ≤ (x4_1 : Int) := of_decide_eq_true (by first | (with_reducible assumption) | assumption)
   have q731004 : x4_1 < (l0.length : Int) := of_decide_eq_true (by first | (with_reducible assumption) | assumption)
   obtain ⟨ad731004, A731004_0, c731004_0, e731004, hx731004_0, hx731004_1, hl731004_0, hi731004_0⟩ := at_T131 HR0.out x4_1 p731004 q731004
   cases e731004
   replace hx731004_0 := (HB.out.cell (World.block_lt_of_cell? w _ hx731004_0)).trans hx731004_0
   replace hx731004_1 := (HB.out.cell (World.block_lt_of_cell? w _ hx731004_1)).trans hx731004_1
   have HR731004_0 := Aside0.mk hi731004_0
   have HC731004_0 := Aside0.mk hl731004_0
   clear hi731004_0 hl731004_0
   replace p731004 := eq_true p731004
   replace q731004 := eq_true q731004
   go_wp2_with (first | ((with_reducible refine gate_callee (f := 133) rfl ?_); refine goesL_ (some 20) rfl rfl Try.func133 (by kernel_rfl) rfl #[.agg #[.slice A731004_0 ((rd_T131 l0 x4_1).f0).length c731004_0, .int .i64 ((rd_T131 l0 x4_1).f1)]] rfl (by (try simp only [List.map_toArray, List.map_cons, List.map_nil]); first | done | rfl | (simp only [List.length_drop, List.length_take]; rfl)) ?_; (with_reducible refine (laws_toTerm.calls k1 _ _ ((rd_T131 l0 x4_1).f0) ((rd_T131 l0 x4_1).f1) t731005 t731008 _ ?side1 ?side2 A8.out).mono ?_); (case side1 => repeat (first | exact (Kd.C_below HR731004_0.out HB.out) | (with_reducible refine Kd.C_alloc ?_ _) | (with_reducible refine Kd.C_drewN ?_ _) | (with_reducible refine Kd.C_drew ?_))); (case side2 => exact HC731004_0.out); rintro e w11 ⟨v731006, rfl, ho0, hb⟩; obtain ⟨A6_, c6_, e6_⟩ := Kd.R_slice ho0; refine ⟨_, rfl, ?_⟩; have n0_ := Aside0.mk (Kd.S_elder' (by (with_reducible repeat (first | apply Kd.S_alloc | apply Kd.S_drewN | apply Kd.S_drew)); exact HO_3.out) (Kd.R_base ho0) hb); have n1_ := Aside0.mk (Kd.R_lower ho0 (below_size (by repeat (first | (with_reducible first | exact HB.out | apply below_alloc | apply pw_below_drewN | apply below_drew1) | exact HB.out)))); have n2_ := Aside0.mk (below_step (by repeat (first | (with_reducible first | exact HB.out | apply below_alloc | apply pw_below_drewN | apply below_drew1) | exact HB.out)) hb); clear HO_3; clear HB; have HO_3 := n0_; have HO731007 := n1_; have HB := n2_; clear n0_ n1_ n2_; (try clear hb); (try clear hb2); (try clear hk); (try clear hi); (try clear ho0); have p10 : 0 ≤ (x4_1 : Int) := of_decide_eq_true (by first | (with_reducible assumption) | assumption); have q10 : (x4_1 : Int) < ((x3_1.length : Int) : Int) := of_decide_eq_true (by first | (with_reducible assumption) | assumption); obtain ⟨go10, co10, eo10, gb10, gl10, cl10, HG10⟩ := Kd.S_form HO_3.out (by omega); (first | cases eo10 | (injection eo10 with ea_ en_ ec_; (first | subst ea_ | (injection ea_ with ea_; subst ea_)); subst ec_; clear en_)); have GB10 := Aside0.mk gb10; have GG10 := Aside0.mk HG10; clear gb10 gl10 HG10; obtain ⟨_, ce10, hcl10, hM10, hcc10, hfr10, _, _⟩ := Kd.S_elem HO_3.out z115 (x4_1 : Int) p10 q10; obtain ⟨ve10_0, rfl, ge10_0⟩ := k115_openM hM10; have hx10_0 : w11.cell? ⟨go10, (x4_1 : Int).toNat * 2, none⟩ = some (ve10_0) := hcc10 0 _ rfl; have hx10_1 : w11.cell? ⟨go10, (x4_1 : Int).toNat * 2 + 1, none⟩ = some (.int .i64 ((rd_T115 x3_1 x4_1).f1)) := hcc10 1 _ rfl; have hf10_0 : w11.frozen? ⟨go10, (x4_1 : Int).toNat * 2, none⟩ = false := hfr10 0; have hf10_1 : w11.frozen? ⟨go10, (x4_1 : Int).toNat * 2 + 1, none⟩ = false := hfr10 1; clear hcl10 hcc10 hfr10 hM10; replace p10 := eq_true p10; replace q10 := eq_true q10; have n_ := Aside0.mk (Kd.S_mono (ok' := (fun k_ => some k_ ≠ (v731006 : Value).ownBlock)) HO_3.out (fun k_ hk => hk.2)); clear HO_3; have HO_3 := n_; clear n_; have HX12 := Aside0.mk (show Kd.S k115 115 w11 w.heap.size (fun k_ => ((fun _ => True)) k_ ∧ ¬ ((fun k_ => some k_ = (v731006 : Value).ownBlock)) k_) (.slice (some ⟨go10, 0, none⟩) x3_1.length co10) x3_1 from (by (with_reducible repeat (first | apply Kd.S_alloc | apply Kd.S_drewN | apply Kd.S_drew)); exact Kd.S_mono HO_3.out (fun k_ hk => ⟨trivial, fun e_ => hk e_⟩))); obtain ⟨oki12, ce12, hcl12, hM12, hcc12, hfr12, hoki12, hH12⟩ := Kd.S_elem HX12.out z115 (x4_1 : Int) (of_decide_eq_true (by first | (with_reducible assumption) | assumption)) (by have h_ : (x4_1 : Int) < ((x3_1.length : Int) : Int) := of_decide_eq_true (by first | (with_reducible assumption) | assumption); first | exact h_ | (have e_ := (Kd.S_reads' HO_3.out).1; omega) | simpa using h_); obtain ⟨ve12_0, rfl, ge12_0⟩ := k115_openM hM12; have HP12 := Kd.S_seg hH12 (of_decide_eq_true (by first | (with_reducible assumption) | assumption)) (by have h_ : (x4_1 : Int) < ((x3_1.length : Int) : Int) := of_decide_eq_true (by first | (with_reducible assumption) | assumption); first | exact h_ | (have e_ := (Kd.S_reads' HO_3.out).1; omega) | simpa using h_) (seg := [v731006, .int .i64 t731008]) (j := 0) (show 2 ≤ 2 from by decide) (x' := (⟨t731005, t731008⟩ : S115)) (k115_mkM _ _ _ (⟨t731005, t731008⟩ : S115) (Kd.R_mono (Kd.R_tight rfl (Kd.R_mono (ok' := fun k_ => ((fun _ => True)) k_ ∧ k_ ≠ go10) (Kd.R_apart' (HO731007.out) (Kd.S_typed HO_3.out) (by decide)) (fun k_ hk => ⟨trivial, fun e_ => (hk.2) (by rw [e_]; rfl)⟩))) (fun _ h_ => Or.inr (h_)))) (fun _ hk => hk) (fun k_ hk_ => ((Kd.R_mono (ok' := fun k_ => ((fun _ => True)) k_ ∧ k_ ≠ go10) (Kd.R_apart' (HO731007.out) (Kd.S_typed HO_3.out) (by decide)) (fun k_ hk => ⟨trivial, fun e_ => (hk.2) (by rw [e_]; rfl)⟩))).1 k_ hk_.symm); have hx12_0 := hcc12 0 _ rfl; (try simp only [show (k115).sz = 2 from rfl, Nat.mul_one, Nat.add_zero] at hx12_0); have hf12_0 := hfr12 0; (try simp only [show (k115).sz = 2 from rfl, Nat.mul_one, Nat.add_zero] at hf12_0); have hx12_1 := hcc12 1 _ rfl; (try simp only [show (k115).sz = 2 from rfl, Nat.mul_one, Nat.add_zero] at hx12_1); have hf12_1 := hfr12 1; (try simp only [show (k115).sz = 2 from rfl, Nat.mul_one, Nat.add_zero] at hf12_1); clear hcl12 hcc12 hfr12 hM12 hoki12 hH12) | ((with_reducible refine gate_store (t := 115) (p := 21) rfl ?_); refine store_event (t := 115) (p := 21) (v := ?vo_w13) (w1 := ((w11.setCell ⟨go10, (x4_1 : Int).toNat * 2, none⟩ (v731006)).setCell ⟨go10, (x4_1 : Int).toNat * 2 + 1, none⟩ (.int .i64 t731008))) ?hg ?ho ?hn ?hr ?_; (case ho => rfl); (case hg => rfl); (case hn => rfl); (case hr => (subst e6_; first | (go_simp; done) | (go_simp; rfl))); intro w13 hw; have hg : w11.grownBy w13 (some go10) := (by rw [hw]; exact HP12.2); have hp_ : Kd.S k115 115 w13 w.heap.size (fun _ => True) (.slice (some ⟨go10, 0, none⟩) x3_1.length co10) y731009 := (by rw [hw, Ny731009.out]; exact HP12.1); clear HP12; have n0_ := Aside0.mk (hp_); have n1_ := Aside0.mk ((by rw [hw]; exact below_set (below_set (HB.out) GB10.out) GB10.out : Below w.heap.size w w13)); clear HO_3; clear HB; clear HO731007; have HO_3 := n0_; have HB := n1_; clear n0_ n1_; clear hg hw hp_))
   go_roundg k1
   case measure => have := HK1.out; omega
   case rel => exact ⟨(y731009), (wrap64 (x4_1 + 1)), (by first | rfl | (simp; done) | (simp [*]; done)), H', ⟨by have := HK1.out; omega⟩, ⟨by (with_reducible repeat (first | apply Kd.S_alloc | apply Kd.S_drewN | apply Kd.S_drew)); exact HO_3.out⟩, ⟨by repeat (first | (with_reducible first | exact HB.out | apply below_alloc | apply pw_below_drewN | apply below_drew1) | exact HB.out)⟩⟩
end Go.Proofs.Ytmeggliapebkgaa.F
end
section
namespace Go.Proofs.Ytmeggliapebkgaa.F
open Go.RowKit Go.Proofs.YtmeggliapebkgaaW.PrintWords Go.Proofs.YtmeggliapebkgaaW.PrintLast Go.Proofs.YtmeggliapebkgaaW.PrintMore
attribute [local go_sem] max2_int min2_int max_two min_two max_three min_three max_four min_four   
set_option linter.unusedVariables false
set_option linter.unusedSimpArgs false
def laws_toSum.f (k : Nat) (a0_0 : Int) (l0_1 : List (S131)) : Option (Int × (List (S115))) := (laws_toTermS.f k l0_1).bind fun t341004 => (some (a0_0, t341004))
theorem laws_toSum.mono : ∀ a0 a1 k, LeO (laws_toSum.f k a0 a1) (laws_toSum.f (k + 1) a0 a1) := by
  intro a0 a1 k
  unfold laws_toSum.f
  repeat' first
      | (with_reducible exact laws_toTermS.mono _ _)
      | (with_reducible exact LeO.refl _)
      | (with_reducible exact LeO.none _)
      | (with_reducible refine LeO.ite ?_ ?_)
      | (with_reducible refine LeO.bind ?_ (fun _ => ?_))
      | exact laws_toTermS.mono _ _
      | exact LeO.none _
      | refine LeO.ite ?_ ?_
      | refine LeO.bind ?_ (fun _ => ?_)
set_option maxHeartbeats 8000000 in
set_option maxRecDepth 100000 in
theorem laws_toSum.calls (k : Nat) (a0_0 : Int) (A0_1 : Option Addr) (c0_1 : Nat) (l0_1 : List (S131)) (r1 : Int) (r2 : List (S115)) (w : World) (hr0_1 : Kd.C k131 w A0_1 l0_1.length l0_1) (hc0_1 : l0_1.length ≤ c0_1) (h : laws_toSum.f k a0_0 l0_1 = some (r1, r2)) :
    Calls Try.prog 34 #[.agg #[.int .i64 a0_0, .slice A0_1 l0_1.length c0_1]] w fun e w' => ∃ v1_ : Value, e = .returned (.agg #[.int .i64 r1, v1_]) ∧ Kd.S k115 115 w' w.heap.size (fun _ => True) v1_ r2 ∧ Below w.heap.size w w' := by
  have hu39 := Try.underlying39
  have hu46 := Try.underlying46
  have HR0_1 := Aside0.mk hr0_1
  have HC0_1 := Aside0.mk hc0_1
  clear hr0_1 hc0_1
  have HB := Aside0.mk (Below.refl w.heap.size w)
  have H : ((laws_toTermS.f k l0_1).bind fun t341004 => (some (a0_0, t341004))) = some (r1, r2) := h
  clear h
  replace H := Option.bind_eq_some_iff.mp H
  obtain ⟨t341004, A20, H⟩ := H
  replace H : (some (a0_0, t341004)) = some (r1, r2) := H
  have A2 := Aside0.mk A20
  clear A20
  simp only [Option.some.injEq, Prod.mk.injEq] at H
  obtain ⟨rfl, rfl⟩ := H
  go_enter Try.func34, Try.ntmps34
  go_wp2_with (first | ((with_reducible refine gate_dst (N := 1) rfl ?_); refine box_event ?hg (N := 1) ?hd (cs := #[.int .i64 a0_0, .slice A0_1 l0_1.length c0_1]) (t := 39) ?hr ?_; (case hd => rfl); (case hg => rfl); (case hr => first | (go_simp; done) | (go_simp; rfl)); intro gb341001 hg w3 hbox hb; have n0_ := Aside0.mk (below_step (by repeat (first | (with_reducible first | exact HB.out | apply below_alloc | apply pw_below_drewN | apply below_drew1) | exact HB.out)) hb); have n1_ := Aside0.mk (hbox); have n2_ := Aside0.mk ((by rw [hg]; exact (below_size (by repeat (first | (with_reducible first | exact HB.out | apply below_alloc | apply pw_below_drewN | apply below_drew1) | exact HB.out))) : w.heap.size ≤ gb341001)); have n3_ := Aside0.mk ((by rw [hg]; exact (below_size (by repeat (first | (with_reducible first | exact HB.out | apply below_alloc | apply pw_below_drewN | apply below_drew1) | exact HB.out))) : w.heap.size ≤ gb341001)); clear HB; have HB := n0_; have BK341001 := n1_; have GW341001 := n2_; have GE341001 := n3_; clear n0_ n1_ n2_ n3_; clear hb hbox hg) | ((with_reducible refine gate_dst (N := 2) rfl ?_); refine box_event ?hg (N := 2) ?hd (cs := #[.int .i64 0, .slice none 0 0]) (t := 46) ?hr ?_; (case hd => rfl); (case hg => rfl); (case hr => first | (go_simp; done) | (go_simp; rfl)); intro gb341002 hg w4 hbox hb; have n0_ := Aside0.mk (blk_below (g := gb341001) (o := .cells #[.int .i64 a0_0, .slice A0_1 l0_1.length c0_1] 39 (0, 0)) (by (with_reducible repeat (first | refine blk_drewN ?_ _ | refine blk_drew ?_ | refine blk_alloc ?_ _)); exact BK341001.out) hb); have n1_ := Aside0.mk (below_step (by repeat (first | (with_reducible first | exact HB.out | apply below_alloc | apply pw_below_drewN | apply below_drew1 | refine below_set ?_ GE341001.out) | exact HB.out)) hb); have n2_ := Aside0.mk (hbox); have n3_ := Aside0.mk ((by rw [hg]; exact (below_size (by repeat (first | (with_reducible first | exact HB.out | apply below_alloc | apply pw_below_drewN | apply below_drew1 | refine below_set ?_ GE341001.out) | exact HB.out))) : w.heap.size ≤ gb341002)); have n4_ := Aside0.mk ((by rw [hg]; exact (below_size (by repeat (first | (with_reducible first | exact HB.out | apply below_alloc | apply pw_below_drewN | apply below_drew1 | refine below_set ?_ GE341001.out) | exact HB.out))) : w.heap.size ≤ gb341002)); have n5_ := Aside0.mk ((by rw [hg]; exact Nat.ne_of_lt (blk_lt (g := gb341001) (o := .cells #[.int .i64 a0_0, .slice A0_1 l0_1.length c0_1] 39 (0, 0)) (by (with_reducible repeat (first | refine blk_drewN ?_ _ | refine blk_drew ?_ | refine blk_alloc ?_ _)); exact BK341001.out)) : gb341001 ≠ gb341002)); have n6_ := Aside0.mk ((by rw [hg]; exact Nat.ne_of_gt (blk_lt (g := gb341001) (o := .cells #[.int .i64 a0_0, .slice A0_1 l0_1.length c0_1] 39 (0, 0)) (by (with_reducible repeat (first | refine blk_drewN ?_ _ | refine blk_drew ?_ | refine blk_alloc ?_ _)); exact BK341001.out)) : gb341002 ≠ gb341001)); clear BK341001; clear HB; have BK341001 := n0_; have HB := n1_; have BK341002 := n2_; have GW341002 := n3_; have GE341002 := n4_; have NB341001_341002 := n5_; have NB341002_341001 := n6_; clear n0_ n1_ n2_ n3_ n4_ n5_ n6_; clear hb hbox hg) | ((with_reducible refine gate_dst (N := 3) rfl ?_); refine box_event ?hg (N := 3) ?hd (cs := #[.int .i64 0, .slice none 0 0]) (t := 46) ?hr ?_; (case hd => rfl); (case hg => rfl); (case hr => first | (go_simp; done) | (go_simp; rfl)); intro gb341003 hg w5 hbox hb; have n0_ := Aside0.mk (blk_below (g := gb341001) (o := .cells #[.int .i64 a0_0, .slice A0_1 l0_1.length c0_1] 39 (0, 0)) (by (with_reducible repeat (first | refine blk_drewN ?_ _ | refine blk_drew ?_ | refine blk_alloc ?_ _)); exact BK341001.out) hb); have n1_ := Aside0.mk (blk_below (g := gb341002) (o := .cells #[.int .i64 0, .slice none 0 0] 46 (0, 0)) (by (with_reducible repeat (first | refine blk_drewN ?_ _ | refine blk_drew ?_ | refine blk_alloc ?_ _)); exact BK341002.out) hb); have n2_ := Aside0.mk (below_step (by repeat (first | (with_reducible first | exact HB.out | apply below_alloc | apply pw_below_drewN | apply below_drew1 | refine below_set ?_ GE341001.out | refine below_set ?_ GE341002.out) | exact HB.out)) hb); have n3_ := Aside0.mk (hbox); have n4_ := Aside0.mk ((by rw [hg]; exact (below_size (by repeat (first | (with_reducible first | exact HB.out | apply below_alloc | apply pw_below_drewN | apply below_drew1 | refine below_set ?_ GE341001.out | refine below_set ?_ GE341002.out) | exact HB.out))) : w.heap.size ≤ gb341003)); have n5_ := Aside0.mk ((by rw [hg]; exact (below_size (by repeat (first | (with_reducible first | exact HB.out | apply below_alloc | apply pw_below_drewN | apply below_drew1 | refine below_set ?_ GE341001.out | refine below_set ?_ GE341002.out) | exact HB.out))) : w.heap.size ≤ gb341003)); have n6_ := Aside0.mk ((by rw [hg]; exact Nat.ne_of_lt (blk_lt (g := gb341001) (o := .cells #[.int .i64 a0_0, .slice A0_1 l0_1.length c0_1] 39 (0, 0)) (by (with_reducible repeat (first | refine blk_drewN ?_ _ | refine blk_drew ?_ | refine blk_alloc ?_ _)); exact BK341001.out)) : gb341001 ≠ gb341003)); have n7_ := Aside0.mk ((by rw [hg]; exact Nat.ne_of_gt (blk_lt (g := gb341001) (o := .cells #[.int .i64 a0_0, .slice A0_1 l0_1.length c0_1] 39 (0, 0)) (by (with_reducible repeat (first | refine blk_drewN ?_ _ | refine blk_drew ?_ | refine blk_alloc ?_ _)); exact BK341001.out)) : gb341003 ≠ gb341001)); have n8_ := Aside0.mk ((by rw [hg]; exact Nat.ne_of_lt (blk_lt (g := gb341002) (o := .cells #[.int .i64 0, .slice none 0 0] 46 (0, 0)) (by (with_reducible repeat (first | refine blk_drewN ?_ _ | refine blk_drew ?_ | refine blk_alloc ?_ _)); exact BK341002.out)) : gb341002 ≠ gb341003)); have n9_ := Aside0.mk ((by rw [hg]; exact Nat.ne_of_gt (blk_lt (g := gb341002) (o := .cells #[.int .i64 0, .slice none 0 0] 46 (0, 0)) (by (with_reducible repeat (first | refine blk_drewN ?_ _ | refine blk_drew ?_ | refine blk_alloc ?_ _)); exact BK341002.out)) : gb341003 ≠ gb341002)); clear BK341001; clear BK341002; clear HB; have BK341001 := n0_; have BK341002 := n1_; have HB := n2_; have BK341003 := n3_; have GW341003 := n4_; have GE341003 := n5_; have NB341001_341003 := n6_; have NB341003_341001 := n7_; have NB341002_341003 := n8_; have NB341003_341002 := n9_; clear n0_ n1_ n2_ n3_ n4_ n5_ n6_ n7_ n8_ n9_; clear hb hbox hg; have hnb6 := NB341001_341002.out; have hnc6 := NB341002_341001.out; have hnb7 := NB341001_341003.out; have hnc7 := NB341003_341001.out; have hcz8_0 : w5.cell? ⟨gb341001, 0, none⟩ = some (.int .i64 a0_0) := (blk_cell BK341001.out 0).trans rfl; have hcz8_1 : w5.cell? ⟨gb341001, 1, none⟩ = some (.slice A0_1 l0_1.length c0_1) := (blk_cell BK341001.out 1).trans rfl; have hfz8_0 := blk_frozen BK341001.out 0; have hfz8_1 := blk_frozen BK341001.out 1; have hnb9 := NB341003_341002.out; have hnc9 := NB341002_341003.out; have hcz10_0 : w5.cell? ⟨gb341003, 0, none⟩ = some (.int .i64 0) := (blk_cell BK341003.out 0).trans rfl; have hcz10_1 : w5.cell? ⟨gb341003, 1, none⟩ = some (.slice none 0 0) := (blk_cell BK341003.out 1).trans rfl; have hfz10_0 := blk_frozen BK341003.out 0; have hfz10_1 := blk_frozen BK341003.out 1) | ((with_reducible refine gate_callee (f := 73) rfl ?_); refine goesL_ (some 9) rfl rfl Try.func73 (by kernel_rfl) rfl #[.slice A0_1 l0_1.length c0_1] rfl (by (try simp only [List.map_toArray, List.map_cons, List.map_nil]); first | done | rfl | (simp only [List.length_drop, List.length_take]; rfl)) ?_; (with_reducible refine (laws_toTermS.calls k _ _ l0_1 t341004 _ ?side1 ?side2 A2.out).mono ?_); (case side1 => exact Kd.C_below HR0_1.out (by repeat (first | (with_reducible first | exact HB.out | apply below_alloc | apply pw_below_drewN | apply below_drew1 | refine below_set ?_ GE341001.out | refine below_set ?_ GE341002.out | refine below_set ?_ GE341003.out) | exact HB.out))); (case side2 => exact HC0_1.out); rintro e w11 ⟨v341005, rfl, ho0, hb⟩; refine ⟨_, rfl, ?_⟩; have n0_ := Aside0.mk (Kd.S_lower ho0 (below_size (by repeat (first | (with_reducible first | exact HB.out | apply below_alloc | apply pw_below_drewN | apply below_drew1 | refine below_set ?_ GE341001.out | refine below_set ?_ GE341002.out | refine below_set ?_ GE341003.out) | exact HB.out)))); have n1_ := Aside0.mk (blk_below (g := gb341001) (o := .cells #[.int .i64 a0_0, .slice A0_1 l0_1.length c0_1] 39 (0, 0)) (by (with_reducible repeat (first | refine blk_drewN ?_ _ | refine blk_drew ?_ | refine blk_alloc ?_ _)); refine blk_far ?_ NB341001_341003.out _; (with_reducible repeat (first | refine blk_drewN ?_ _ | refine blk_drew ?_ | refine blk_alloc ?_ _)); exact BK341001.out) hb); have n2_ := Aside0.mk (blk_below (g := gb341002) (o := .cells #[.int .i64 0, .slice none 0 0] 46 (0, 0)) (by (with_reducible repeat (first | refine blk_drewN ?_ _ | refine blk_drew ?_ | refine blk_alloc ?_ _)); refine blk_far ?_ NB341002_341003.out _; (with_reducible repeat (first | refine blk_drewN ?_ _ | refine blk_drew ?_ | refine blk_alloc ?_ _)); exact BK341002.out) hb); have n3_ := Aside0.mk (blk_below (g := gb341003) (o := .cells #[.int .i64 a0_0, .slice none 0 0] 46 (0, 0)) (by (with_reducible repeat (first | refine blk_drewN ?_ _ | refine blk_drew ?_ | refine blk_alloc ?_ _)); refine blk_put (cs := #[.int .i64 0, .slice none 0 0]) ?_ 0 _ rfl; (with_reducible repeat (first | refine blk_drewN ?_ _ | refine blk_drew ?_ | refine blk_alloc ?_ _)); exact BK341003.out) hb); have n4_ := Aside0.mk (below_step (by repeat (first | (with_reducible first | exact HB.out | apply below_alloc | apply pw_below_drewN | apply below_drew1 | refine below_set ?_ GE341001.out | refine below_set ?_ GE341002.out | refine below_set ?_ GE341003.out) | exact HB.out)) hb); clear BK341001; clear BK341002; clear BK341003; clear HB; have HO341006 := n0_; have BK341001 := n1_; have BK341002 := n2_; have BK341003 := n3_; have HB := n4_; clear n0_ n1_ n2_ n3_ n4_; (try clear hb); (try clear hb2); (try clear hk); (try clear hi); (try clear ho0); obtain ⟨Ao12, co12, eo12⟩ := Kd.S_slice HO341006.out; subst eo12; have hcz13_0 : w11.cell? ⟨gb341003, 0, none⟩ = some (.int .i64 a0_0) := (blk_cell BK341003.out 0).trans rfl; have hcz13_1 : w11.cell? ⟨gb341003, 1, none⟩ = some (.slice none 0 0) := (blk_cell BK341003.out 1).trans rfl; have hfz13_0 := blk_frozen BK341003.out 0; have hfz13_1 := blk_frozen BK341003.out 1; have hcz14_0 : w11.cell? ⟨gb341002, 0, none⟩ = some (.int .i64 0) := (blk_cell BK341002.out 0).trans rfl; have hcz14_1 : w11.cell? ⟨gb341002, 1, none⟩ = some (.slice none 0 0) := (blk_cell BK341002.out 1).trans rfl; have hfz14_0 := blk_frozen BK341002.out 0; have hfz14_1 := blk_frozen BK341002.out 1))
  refine bodyPost_ret (results_cell_row rfl _ _ gb341002 46 #[.int .i64 a0_0, .slice Ao12 t341004.length co12] (0, 0) _ rfl (by (with_reducible repeat (first | refine blk_drewN ?_ _ | refine blk_drew ?_ | refine blk_alloc ?_ _)); refine blk_put (cs := #[.int .i64 a0_0, .slice none 0 0]) ?_ 1 _ rfl; (with_reducible repeat (first | refine blk_drewN ?_ _ | refine blk_drew ?_ | refine blk_alloc ?_ _)); refine blk_put (cs := #[.int .i64 0, .slice none 0 0]) ?_ 0 _ rfl; (with_reducible repeat (first | refine blk_drewN ?_ _ | refine blk_drew ?_ | refine blk_alloc ?_ _)); refine blk_far ?_ NB341002_341003.out _; (with_reducible repeat (first | refine blk_drewN ?_ _ | refine blk_drew ?_ | refine blk_alloc ?_ _)); exact BK341002.out) Try.underlying46 rfl (by kernel_rfl)) rfl ?_
  exact ⟨_, by first | rfl | (simp [errW_none, errW_some] <;> rfl) | (simp [*, errW_none, errW_some] <;> rfl), by (with_reducible repeat (first | apply Kd.S_alloc | apply Kd.S_drewN | apply Kd.S_drew)); exact Kd.S_mono (Kd.S_far (p := ⟨gb341002, 1, none⟩) (Kd.S_far (p := ⟨gb341002, 0, none⟩) (Kd.S_far (p := ⟨gb341003, 1, none⟩) (Kd.S_types (Kd.S_types HO341006.out BK341003.out (by decide)) BK341002.out (by decide)) (fun _ hk => hk.1.2) (.slice Ao12 t341004.length co12)) (fun _ hk => hk.2) (.int .i64 a0_0)) (fun _ hk => hk.2) (.slice Ao12 t341004.length co12)) (fun _ hk => trivial), by repeat (first | (with_reducible first | exact HB.out | apply below_alloc | apply pw_below_drewN | apply below_drew1 | refine below_set ?_ GE341001.out | refine below_set ?_ GE341002.out | refine below_set ?_ GE341003.out) | exact HB.out)⟩
end Go.Proofs.Ytmeggliapebkgaa.F
end
section
namespace Go.Proofs.Ytmeggliapebkgaa.F
open Go.RowKit Go.Proofs.YtmeggliapebkgaaW.PrintWords Go.Proofs.YtmeggliapebkgaaW.PrintLast Go.Proofs.YtmeggliapebkgaaW.PrintMore
attribute [local go_sem] max2_int min2_int max_two min_two max_three min_three max_four min_four   
set_option linter.unusedVariables false
set_option linter.unusedSimpArgs false
def laws_toDesk.f (k : Nat) (l0_0 : List Int) (a0_1 : Int) (l0_2 : List (S131)) (l0_3 : List Int) (l0_4 : List (List Int)) : Option (List Int × Int × (List (S115)) × List Int × (List (List Int))) := (laws_toInt64S.f k l0_0).bind fun t211004 => ((laws_toSum.f k a0_1 l0_2).bind fun bt211007 => ((laws_toWeb.f k l0_3 l0_4).bind fun bt211011 => (some (t211004, bt211007.1, bt211007.2, bt211011.1, bt211011.2))))
theorem laws_toDesk.mono : ∀ a0 a1 a2 a3 a4 k, LeO (laws_toDesk.f k a0 a1 a2 a3 a4) (laws_toDesk.f (k + 1) a0 a1 a2 a3 a4) := by
 intro a0 a1 a2 a3 a4 k
 unfold laws_toDesk.f
 repeat' first
   | (with_reducible exact laws_toInt64S.mono _ _)
   | (with_reducible exact laws_toSum.mono _ _ _)
   | (with_reducible exact laws_toWeb.mono _ _ _)
   | (with_reducible exact LeO.refl _)
   | (with_reducible exact LeO.none _)
   | (with_reducible refine LeO.ite ?_ ?_)
   | (with_reducible refine LeO.bind ?_ (fun _ => ?_))
   | exact laws_toInt64S.mono _ _
   | exact laws_toSum.mono _ _ _
   | exact laws_toWeb.mono _ _ _
   | exact LeO.none _
   | refine LeO.ite ?_ ?_
   | refine LeO.bind ?_ (fun _ => ?_)
set_option maxHeartbeats 8000000 in
set_option maxRecDepth 100000 in
theorem laws_toDesk.calls (k : Nat) (A0_0 : Option Addr) (c0_0 : Nat) (l0_0 : List Int) (a0_1 : Int) (A0_2 : Option Addr) (c0_2 : Nat) (l0_2 : List (S131)) (A0_3 : Option Addr) (c0_3 : Nat) (l0_3 : List Int) (A0_4 : Option Addr) (c0_4 : Nat) (l0_4 : List (List Int)) (r1 : List Int) (r2 : Int) (r3 : List (S115)) (r4 : List Int) (r5 : List (List Int)) (w : World) (hr0_0 : Kd.C (Kd.int .i64) w A0_0 l0_0.length l0_0) (hc0_0 : l0_0.length ≤ c0_0) (hr0_2 : Kd.C k131 w A0_2 l0_2.length l0_2) (hc0_2 : l0_2.length ≤ c0_2) (hr0_3 : Kd.C (Kd.int .i64) w A0_3 l0_3.length l0_3) (hc0_3 : l0_3.length ≤ c0_3) (hr0_4 : Kd.C (Kd.slice 2 (Kd.int .i64)) w A0_4 l0_4.length l0_4) (hc0_4 : l0_4.length ≤ c0_4) (h : laws_toDesk.f k l0_0 a0_1 l0_2 l0_3 l0_4 = some (r1, r2, r3, r4, r5)) :
  Calls Try.prog 21 #[.agg #[.slice A0_0 l0_0.length c0_0, .int .i64 a0_1, .slice A0_2 l0_2.length c0_2, .slice A0_3 l0_3.length c0_3, .slice A0_4 l0_4.length c0_4]] w fun e w' => ∃ v0_ v2_ v3_ v4_ : Value, e = .returned (.agg #[v0_, .int .i64 r2, v2_, v3_, v4_]) ∧ Kd.R (Kd.int .i64) 2 w' w.heap.size (fun k_ => some k_ ≠ (v3_ : Value).ownBlock) v0_ r1 ∧ Kd.S k115 115 w' w.heap.size (fun k_ => some k_ ≠ (v0_ : Value).ownBlock ∧ some k_ ≠ (v3_ : Value).ownBlock) v2_ r3 ∧ Kd.R (Kd.int .i64) 2 w' w.heap.size (fun k_ => some k_ ≠ (v0_ : Value).ownBlock) v3_ r4 ∧ Kd.S (Kd.slice 2 (Kd.int .i64)) 22 w' w.heap.size (fun k_ => some k_ ≠ (v0_ : Value).ownBlock ∧ some k_ ≠ (v3_ : Value).ownBlock) v4_ r5 ∧ Below w.heap.size w w' := by
 have hu41 := Try.underlying41
 have hu48 := Try.underlying48
 have hu39 := Try.underlying39
 have hu46 := Try.underlying46
 have hu25 := Try.underlying25
 have hu30 := Try.underlying30
 have HR0_0 := Aside0.mk hr0_0
 have HC0_0 := Aside0.mk hc0_0
 clear hr0_0 hc0_0
 have HR0_2 := Aside0.mk hr0_2
 have HC0_2 := Aside0.mk hc0_2
 clear hr0_2 hc0_2
 have HR0_3 := Aside0.mk hr0_3
 have HC0_3 := Aside0.mk hc0_3
 clear hr0_3 hc0_3
 have HR0_4 := Aside0.mk hr0_4
 have HC0_4 := Aside0.mk hc0_4
 clear hr0_4 hc0_4
 have HB := Aside0.mk (Below.refl w.heap.size w)
 have H : ((laws_toInt64S.f k l0_0).bind fun t211004 => ((laws_toSum.f k a0_1 l0_2).bind fun bt211007 => ((laws_toWeb.f k l0_3 l0_4).bind fun bt211011 => (some (t211004, bt211007.1, bt211007.2, bt211011.1, bt211011.2))))) = some (r1, r2, r3, r4, r5) := h
 clear h
 replace H := Option.bind_eq_some_iff.mp H
 obtain ⟨t211004, A20, H⟩ := H
 replace H : ((laws_toSum.f k a0_1 l0_2).bind fun bt211007 => ((laws_toWeb.f k l0_3 l0_4).bind fun bt211011 => (some (t211004, bt211007.1, bt211007.2, bt211011.1, bt211011.2)))) = some (r1, r2, r3, r4, r5) := H
 have A2 := Aside0.mk A20
 clear A20
 replace H := Option.bind_eq_some_iff.mp H
 obtain ⟨⟨t211007, t211008⟩, A30, H⟩ := H
 replace H : ((laws_toWeb.f k l0_3 l0_4).bind fun bt211011 => (some (t211004, t211007, t211008, bt211011.1, bt211011.2))) = some (r1, r2, r3, r4, r5) := H
 have A3 := Aside0.mk A30
 clear A30
 replace H := Option.bind_eq_some_iff.mp H
 obtain ⟨⟨t211011, t211014⟩, A40, H⟩ := H
 replace H : (some (t211004, t211007, t211008, t211011, t211014)) = some (r1, r2, r3, r4, r5) := H
 have A4 := Aside0.mk A40
 clear A40
 simp only [Option.some.injEq, Prod.mk.injEq] at H
 obtain ⟨rfl, rfl, rfl, rfl, rfl⟩ := H
 go_enter Try.func21, Try.ntmps21
 go_wp2_with (first | ((with_reducible refine gate_dst (N := 1) rfl ?_); refine box_event ?hg (N := 1) ?hd (cs := #[.slice A0_0 l0_0.length c0_0, .int .i64 a0_1, .slice A0_2 l0_2.length c0_2, .slice A0_3 l0_3.length c0_3, .slice A0_4 l0_4.length c0_4]) (t := 41) ?hr ?_; (case hd => rfl); (case hg => rfl); (case hr => first | (go_simp; done) | (go_simp; rfl)); intro gb211001 hg w5 hbox hb; have n0_ := Aside0.mk (below_step (by repeat (first | (with_reducible first | exact HB.out | apply below_alloc | apply pw_below_drewN | apply below_drew1) | exact HB.out)) hb); have n1_ := Aside0.mk (hbox); have n2_ := Aside0.mk ((by rw [hg]; exact (below_size (by repeat (first | (with_reducible first | exact HB.out | apply below_alloc | apply pw_below_drewN | apply below_drew1) | exact HB.out))) : w.heap.size ≤ gb211001)); have n3_ := Aside0.mk ((by rw [hg]; exact (below_size (by repeat (first | (with_reducible first | exact HB.out | apply below_alloc | apply pw_below_drewN | apply below_drew1) | exact HB.out))) : w.heap.size ≤ gb211001)); clear HB; have HB := n0_; have BK211001 := n1_; have GW211001 := n2_; have GE211001 := n3_; clear n0_ n1_ n2_ n3_; clear hb hbox hg) | ((with_reducible refine gate_dst (N := 2) rfl ?_); refine box_event ?hg (N := 2) ?hd (cs := #[.slice none 0 0, .int .i64 0, .slice none 0 0, .slice none 0 0, .slice none 0 0]) (t := 48) ?hr ?_; (case hd => rfl); (case hg => rfl); (case hr => first | (go_simp; done) | (go_simp; rfl)); intro gb211002 hg w6 hbox hb; have n0_ := Aside0.mk (blk_below (g := gb211001) (o := .cells #[.slice A0_0 l0_0.length c0_0, .int .i64 a0_1, .slice A0_2 l0_2.length c0_2, .slice A0_3 l0_3.length c0_3, .slice A0_4 l0_4.length c0_4] 41 (0, 0)) (by (with_reducible repeat (first | refine blk_drewN ?_ _ | refine blk_drew ?_ | refine blk_alloc ?_ _)); exact BK211001.out) hb); have n1_ := Aside0.mk (below_step (by repeat (first | (with_reducible first | exact HB.out | apply below_alloc | apply pw_below_drewN | apply below_drew1 | refine below_set ?_ GE211001.out) | exact HB.out)) hb); have n2_ := Aside0.mk (hbox); have n3_ := Aside0.mk ((by rw [hg]; exact (below_size (by repeat (first | (with_reducible first | exact HB.out | apply below_alloc | apply pw_below_drewN | apply below_drew1 | refine below_set ?_ GE211001.out) | exact HB.out))) : w.heap.size ≤ gb211002)); have n4_ := Aside0.mk ((by rw [hg]; exact (below_size (by repeat (first | (with_reducible first | exact HB.out | apply below_alloc | apply pw_below_drewN | apply below_drew1 | refine below_set ?_ GE211001.out) | exact HB.out))) : w.heap.size ≤ gb211002)); have n5_ := Aside0.mk ((by rw [hg]; exact Nat.ne_of_lt (blk_lt (g := gb211001) (o := .cells #[.slice A0_0 l0_0.length c0_0, .int .i64 a0_1, .slice A0_2 l0_2.length c0_2, .slice A0_3 l0_3.length c0_3, .slice A0_4 l0_4.length c0_4] 41 (0, 0)) (by (with_reducible repeat (first | refine blk_drewN ?_ _ | refine blk_drew ?_ | refine blk_alloc ?_ _)); exact BK211001.out)) : gb211001 ≠ gb211002)); have n6_ := Aside0.mk ((by rw [hg]; exact Nat.ne_of_gt (blk_lt (g := gb211001) (o := .cells #[.slice A0_0 l0_0.length c0_0, .int .i64 a0_1, .slice A0_2 l0_2.length c0_2, .slice A0_3 l0_3.length c0_3, .slice A0_4 l0_4.length c0_4] 41 (0, 0)) (by (with_reducible repeat (first | refine blk_drewN ?_ _ | refine blk_drew ?_ | refine blk_alloc ?_ _)); exact BK211001.out)) : gb211002 ≠ gb211001)); clear BK211001; clear HB; have BK211001 := n0_; have HB := n1_; have BK211002 := n2_; have GW211002 := n3_; have GE211002 := n4_; have NB211001_211002 := n5_; have NB211002_211001 := n6_; clear n0_ n1_ n2_ n3_ n4_ n5_ n6_; clear hb hbox hg) | ((with_reducible refine gate_dst (N := 3) rfl ?_); refine box_event ?hg (N := 3) ?hd (cs := #[.slice none 0 0, .int .i64 0, .slice none 0 0, .slice none 0 0, .slice none 0 0]) (t := 48) ?hr ?_; (case hd => rfl); (case hg => rfl); (case hr => first | (go_simp; done) | (go_simp; rfl)); intro gb211003 hg w7 hbox hb; have n0_ := Aside0.mk (blk_below (g := gb211001) (o := .cells #[.slice A0_0 l0_0.length c0_0, .int .i64 a0_1, .slice A0_2 l0_2.length c0_2, .slice A0_3 l0_3.length c0_3, .slice A0_4 l0_4.length c0_4] 41 (0, 0)) (by (with_reducible repeat (first | refine blk_drewN ?_ _ | refine blk_drew ?_ | refine blk_alloc ?_ _)); exact BK211001.out) hb); have n1_ := Aside0.mk (blk_below (g := gb211002) (o := .cells #[.slice none 0 0, .int .i64 0, .slice none 0 0, .slice none 0 0, .slice none 0 0] 48 (0, 0)) (by (with_reducible repeat (first | refine blk_drewN ?_ _ | refine blk_drew ?_ | refine blk_alloc ?_ _)); exact BK211002.out) hb); have n2_ := Aside0.mk (below_step (by repeat (first | (with_reducible first | exact HB.out | apply below_alloc | apply pw_below_drewN | apply below_drew1 | refine below_set ?_ GE211001.out | refine below_set ?_ GE211002.out) | exact HB.out)) hb); have n3_ := Aside0.mk (hbox); have n4_ := Aside0.mk ((by rw [hg]; exact (below_size (by repeat (first | (with_reducible first | exact HB.out | apply below_alloc | apply pw_below_drewN | apply below_drew1 | refine below_set ?_ GE211001.out | refine below_set ?_ GE211002.out) | exact HB.out))) : w.heap.size ≤ gb211003)); have n5_ := Aside0.mk ((by rw [hg]; exact (below_size (by repeat (first | (with_reducible first | exact HB.out | apply below_alloc | apply pw_below_drewN | apply below_drew1 | refine below_set ?_ GE211001.out | refine below_set ?_ GE211002.out) | exact HB.out))) : w.heap.size ≤ gb211003)); have n6_ := Aside0.mk ((by rw [hg]; exact Nat.ne_of_lt (blk_lt (g := gb211001) (o := .cells #[.slice A0_0 l0_0.length c0_0, .int .i64 a0_1, .slice A0_2 l0_2.length c0_2, .slice A0_3 l0_3.length c0_3, .slice A0_4 l0_4.length c0_4] 41 (0, 0)) (by (with_reducible repeat (first | refine blk_drewN ?_ _ | refine blk_drew ?_ | refine blk_alloc ?_ _)); exact BK211001.out)) : gb211001 ≠ gb211003)); have n7_ := Aside0.mk ((by rw [hg]; exact Nat.ne_of_gt (blk_lt (g := gb211001) (o := .cells #[.slice A0_0 l0_0.length c0_0, .int .i64 a0_1, .slice A0_2 l0_2.length c0_2, .slice A0_3 l0_3.length c0_3, .slice A0_4 l0_4.length c0_4] 41 (0, 0)) (by (with_reducible repeat (first | refine blk_drewN ?_ _ | refine blk_drew ?_ | refine blk_alloc ?_ _)); exact BK211001.out)) : gb211003 ≠ gb211001)); have n8_ := Aside0.mk ((by rw [hg]; exact Nat.ne_of_lt (blk_lt (g := gb211002) (o := .cells #[.slice none 0 0, .int .i64 0, .slice none 0 0, .slice none 0 0, .slice none 0 0] 48 (0, 0)) (by (with_reducible repeat (first | refine blk_drewN ?_ _ | refine blk_drew ?_ | refine blk_alloc ?_ _)); exact BK211002.out)) : gb211002 ≠ gb211003)); have n9_ := Aside0.mk ((by rw [hg]; exact Nat.ne_of_gt (blk_lt (g := gb211002) (o := .cells #[.slice none 0 0, .int .i64 0, .slice none 0 0, .slice none 0 0, .slice none 0 0] 48 (0, 0)) (by (with_reducible repeat (first | refine blk_drewN ?_ _ | refine blk_drew ?_ | refine blk_alloc ?_ _)); exact BK211002.out)) : gb211003 ≠ gb211002)); clear BK211001; clear BK211002; clear HB; have BK211001 := n0_; have BK211002 := n1_; have HB := n2_; have BK211003 := n3_; have GW211003 := n4_; have GE211003 := n5_; have NB211001_211003 := n6_; have NB211003_211001 := n7_; have NB211002_211003 := n8_; have NB211003_211002 := n9_; clear n0_ n1_ n2_ n3_ n4_ n5_ n6_ n7_ n8_ n9_; clear hb hbox hg; have hnb8 := NB211001_211002.out; have hnc8 := NB211002_211001.out; have hnb9 := NB211001_211003.out; have hnc9 := NB211003_211001.out; have hcz10_0 : w7.cell? ⟨gb211001, 0, none⟩ = some (.slice A0_0 l0_0.length c0_0) := (blk_cell BK211001.out 0).trans rfl; have hcz10_1 : w7.cell? ⟨gb211001, 1, none⟩ = some (.int .i64 a0_1) := (blk_cell BK211001.out 1).trans rfl; have hcz10_2 : w7.cell? ⟨gb211001, 2, none⟩ = some (.slice A0_2 l0_2.length c0_2) := (blk_cell BK211001.out 2).trans rfl; have hcz10_3 : w7.cell? ⟨gb211001, 3, none⟩ = some (.slice A0_3 l0_3.length c0_3) := (blk_cell BK211001.out 3).trans rfl; have hcz10_4 : w7.cell? ⟨gb211001, 4, none⟩ = some (.slice A0_4 l0_4.length c0_4) := (blk_cell BK211001.out 4).trans rfl; have hfz10_0 := blk_frozen BK211001.out 0; have hfz10_1 := blk_frozen BK211001.out 1; have hfz10_2 := blk_frozen BK211001.out 2; have hfz10_3 := blk_frozen BK211001.out 3; have hfz10_4 := blk_frozen BK211001.out 4) | ((with_reducible refine gate_callee (f := 25) rfl ?_); refine goesL_ (some 6) rfl rfl Try.func25 (by kernel_rfl) rfl #[.slice A0_0 l0_0.length c0_0] rfl (by (try simp only [List.map_toArray, List.map_cons, List.map_nil]); first | done | rfl | (simp only [List.length_drop, List.length_take]; rfl)) ?_; (with_reducible refine (laws_toInt64S.calls k _ _ l0_0 t211004 _ ?side1 ?side2 A2.out).mono ?_); (case side1 => repeat (first | exact (Kd.C_below HR0_0.out HB.out) | (with_reducible refine Kd.C_alloc ?_ _) | (with_reducible refine Kd.C_drewN ?_ _) | (with_reducible refine Kd.C_drew ?_))); (case side2 => exact HC0_0.out); rintro e w11 ⟨v211005, rfl, ho0, hb⟩; refine ⟨_, rfl, ?_⟩; have n0_ := Aside0.mk (Kd.R_lower ho0 (below_size (by repeat (first | (with_reducible first | exact HB.out | apply below_alloc | apply pw_below_drewN | apply below_drew1 | refine below_set ?_ GE211001.out | refine below_set ?_ GE211002.out | refine below_set ?_ GE211003.out) | exact HB.out)))); have n1_ := Aside0.mk (blk_below (g := gb211001) (o := .cells #[.slice A0_0 l0_0.length c0_0, .int .i64 a0_1, .slice A0_2 l0_2.length c0_2, .slice A0_3 l0_3.length c0_3, .slice A0_4 l0_4.length c0_4] 41 (0, 0)) (by (with_reducible repeat (first | refine blk_drewN ?_ _ | refine blk_drew ?_ | refine blk_alloc ?_ _)); exact BK211001.out) hb); have n2_ := Aside0.mk (blk_below (g := gb211002) (o := .cells #[.slice none 0 0, .int .i64 0, .slice none 0 0, .slice none 0 0, .slice none 0 0] 48 (0, 0)) (by (with_reducible repeat (first | refine blk_drewN ?_ _ | refine blk_drew ?_ | refine blk_alloc ?_ _)); exact BK211002.out) hb); have n3_ := Aside0.mk (blk_below (g := gb211003) (o := .cells #[.slice none 0 0, .int .i64 0, .slice none 0 0, .slice none 0 0, .slice none 0 0] 48 (0, 0)) (by (with_reducible repeat (first | refine blk_drewN ?_ _ | refine blk_drew ?_ | refine blk_alloc ?_ _)); exact BK211003.out) hb); have n4_ := Aside0.mk (below_step (by repeat (first | (with_reducible first | exact HB.out | apply below_alloc | apply pw_below_drewN | apply below_drew1 | refine below_set ?_ GE211001.out | refine below_set ?_ GE211002.out | refine below_set ?_ GE211003.out) | exact HB.out)) hb); clear BK211001; clear BK211002; clear BK211003; clear HB; have HO211006 := n0_; have BK211001 := n1_; have BK211002 := n2_; have BK211003 := n3_; have HB := n4_; clear n0_ n1_ n2_ n3_ n4_; (try clear hb); (try clear hb2); (try clear hk); (try clear hi); (try clear ho0); obtain ⟨Ao12, co12, eo12⟩ := Kd.R_slice HO211006.out; subst eo12; have hnb13 := NB211003_211002.out; have hnc13 := NB211002_211003.out; have hcz14_0 : w11.cell? ⟨gb211003, 0, none⟩ = some (.slice none 0 0) := (blk_cell BK211003.out 0).trans rfl; have hcz14_1 : w11.cell? ⟨gb211003, 1, none⟩ = some (.int .i64 0) := (blk_cell BK211003.out 1).trans rfl; have hcz14_2 : w11.cell? ⟨gb211003, 2, none⟩ = some (.slice none 0 0) := (blk_cell BK211003.out 2).trans rfl; have hcz14_3 : w11.cell? ⟨gb211003, 3, none⟩ = some (.slice none 0 0) := (blk_cell BK211003.out 3).trans rfl; have hcz14_4 : w11.cell? ⟨gb211003, 4, none⟩ = some (.slice none 0 0) := (blk_cell BK211003.out 4).trans rfl; have hfz14_0 := blk_frozen BK211003.out 0; have hfz14_1 := blk_frozen BK211003.out 1; have hfz14_2 := blk_frozen BK211003.out 2; have hfz14_3 := blk_frozen BK211003.out 3; have hfz14_4 := blk_frozen BK211003.out 4; have hcz15_0 : w11.cell? ⟨gb211001, 0, none⟩ = some (.slice A0_0 l0_0.length c0_0) := (blk_cell BK211001.out 0).trans rfl; have hcz15_1 : w11.cell? ⟨gb211001, 1, none⟩ = some (.int .i64 a0_1) := (blk_cell BK211001.out 1).trans rfl; have hcz15_2 : w11.cell? ⟨gb211001, 2, none⟩ = some (.slice A0_2 l0_2.length c0_2) := (blk_cell BK211001.out 2).trans rfl; have hcz15_3 : w11.cell? ⟨gb211001, 3, none⟩ = some (.slice A0_3 l0_3.length c0_3) := (blk_cell BK211001.out 3).trans rfl; have hcz15_4 : w11.cell? ⟨gb211001, 4, none⟩ = some (.slice A0_4 l0_4.length c0_4) := (blk_cell BK211001.out 4).trans rfl; have hfz15_0 := blk_frozen BK211001.out 0; have hfz15_1 := blk_frozen BK211001.out 1; have hfz15_2 := blk_frozen BK211001.out 2; have hfz15_3 := blk_frozen BK211001.out 3; have hfz15_4 := blk_frozen BK211001.out 4) | ((with_reducible refine gate_callee (f := 34) rfl ?_); refine goesL_ (some 10) rfl rfl Try.func34 (by kernel_rfl) rfl #[.agg #[.int .i64 a0_1, .slice A0_2 l0_2.length c0_2]] rfl (by (try simp only [List.map_toArray, List.map_cons, List.map_nil]); first | done | rfl | (simp only [List.length_drop, List.length_take]; rfl)) ?_; (with_reducible refine (laws_toSum.calls k a0_1 _ _ l0_2 t211007 t211008 _ ?side1 ?side2 A3.out).mono ?_); (case side1 => exact Kd.C_below HR0_2.out (by repeat (first | (with_reducible first | exact HB.out | apply below_alloc | apply pw_below_drewN | apply below_drew1 | refine below_set ?_ GE211001.out | refine below_set ?_ GE211002.out | refine below_set ?_ GE211003.out) | exact HB.out))); (case side2 => exact HC0_2.out); rintro e w16 ⟨v211009, rfl, ho0, hb⟩; refine ⟨_, rfl, ?_⟩; have n0_ := Aside0.mk (Kd.R_below (by (with_reducible repeat (first | apply Kd.R_alloc | apply Kd.R_drewN | apply Kd.R_drew)); exact (Kd.R_mono (Kd.R_far (p := ⟨gb211003, 0, none⟩) (Kd.R_types HO211006.out BK211003.out (by decide)) (fun _ hk => hk.2) (.slice Ao12 t211004.length co12)) (fun _ h_ => h_.1))) hb); have n1_ := Aside0.mk (Kd.S_lower (Kd.S_new' ho0 (Kd.R_lt (by (with_reducible repeat (first | apply Kd.R_alloc | apply Kd.R_drewN | apply Kd.R_drew)); exact (Kd.R_mono (Kd.R_far (p := ⟨gb211003, 0, none⟩) (Kd.R_types HO211006.out BK211003.out (by decide)) (fun _ hk => hk.2) (.slice Ao12 t211004.length co12)) (fun _ h_ => h_.1))))) (below_size (by repeat (first | (with_reducible first | exact HB.out | apply below_alloc | apply pw_below_drewN | apply below_drew1 | refine below_set ?_ GE211001.out | refine below_set ?_ GE211002.out | refine below_set ?_ GE211003.out) | exact HB.out)))); have n2_ := Aside0.mk (blk_below (g := gb211001) (o := .cells #[.slice A0_0 l0_0.length c0_0, .int .i64 a0_1, .slice A0_2 l0_2.length c0_2, .slice A0_3 l0_3.length c0_3, .slice A0_4 l0_4.length c0_4] 41 (0, 0)) (by (with_reducible repeat (first | refine blk_drewN ?_ _ | refine blk_drew ?_ | refine blk_alloc ?_ _)); refine blk_far ?_ NB211001_211003.out _; (with_reducible repeat (first | refine blk_drewN ?_ _ | refine blk_drew ?_ | refine blk_alloc ?_ _)); exact BK211001.out) hb); have n3_ := Aside0.mk (blk_below (g := gb211002) (o := .cells #[.slice none 0 0, .int .i64 0, .slice none 0 0, .slice none 0 0, .slice none 0 0] 48 (0, 0)) (by (with_reducible repeat (first | refine blk_drewN ?_ _ | refine blk_drew ?_ | refine blk_alloc ?_ _)); refine blk_far ?_ NB211002_211003.out _; (with_reducible repeat (first | refine blk_drewN ?_ _ | refine blk_drew ?_ | refine blk_alloc ?_ _)); exact BK211002.out) hb); have n4_ := Aside0.mk (blk_below (g := gb211003) (o := .cells #[.slice Ao12 t211004.length co12, .int .i64 0, .slice none 0 0, .slice none 0 0, .slice none 0 0] 48 (0, 0)) (by (with_reducible repeat (first | refine blk_drewN ?_ _ | refine blk_drew ?_ | refine blk_alloc ?_ _)); refine blk_put (cs := #[.slice none 0 0, .int .i64 0, .slice none 0 0, .slice none 0 0, .slice none 0 0]) ?_ 0 _ rfl; (with_reducible repeat (first | refine blk_drewN ?_ _ | refine blk_drew ?_ | refine blk_alloc ?_ _)); exact BK211003.out) hb); have n5_ := Aside0.mk (below_step (by repeat (first | (with_reducible first | exact HB.out | apply below_alloc | apply pw_below_drewN | apply below_drew1 | refine below_set ?_ GE211001.out | refine below_set ?_ GE211002.out | refine below_set ?_ GE211003.out) | exact HB.out)) hb); clear HO211006; clear BK211001; clear BK211002; clear BK211003; clear HB; have HO211006 := n0_; have HO211010 := n1_; have BK211001 := n2_; have BK211002 := n3_; have BK211003 := n4_; have HB := n5_; clear n0_ n1_ n2_ n3_ n4_ n5_; (try clear hb); (try clear hb2); (try clear hk); (try clear hi); (try clear ho0); have hcz17_0 : w16.cell? ⟨gb211003, 0, none⟩ = some (.slice Ao12 t211004.length co12) := (blk_cell BK211003.out 0).trans rfl; have hcz17_1 : w16.cell? ⟨gb211003, 1, none⟩ = some (.int .i64 0) := (blk_cell BK211003.out 1).trans rfl; have hcz17_2 : w16.cell? ⟨gb211003, 2, none⟩ = some (.slice none 0 0) := (blk_cell BK211003.out 2).trans rfl; have hcz17_3 : w16.cell? ⟨gb211003, 3, none⟩ = some (.slice none 0 0) := (blk_cell BK211003.out 3).trans rfl; have hcz17_4 : w16.cell? ⟨gb211003, 4, none⟩ = some (.slice none 0 0) := (blk_cell BK211003.out 4).trans rfl; have hfz17_0 := blk_frozen BK211003.out 0; have hfz17_1 := blk_frozen BK211003.out 1; have hfz17_2 := blk_frozen BK211003.out 2; have hfz17_3 := blk_frozen BK211003.out 3; have hfz17_4 := blk_frozen BK211003.out 4; obtain ⟨Ao18, co18, eo18⟩ := Kd.S_slice HO211010.out; subst eo18; have hcz19_0 : w16.cell? ⟨gb211001, 0, none⟩ = some (.slice A0_0 l0_0.length c0_0) := (blk_cell BK211001.out 0).trans rfl; have hcz19_1 : w16.cell? ⟨gb211001, 1, none⟩ = some (.int .i64 a0_1) := (blk_cell BK211001.out 1).trans rfl; have hcz19_2 : w16.cell? ⟨gb211001, 2, none⟩ = some (.slice A0_2 l0_2.length c0_2) := (blk_cell BK211001.out 2).trans rfl; have hcz19_3 : w16.cell? ⟨gb211001, 3, none⟩ = some (.slice A0_3 l0_3.length c0_3) := (blk_cell BK211001.out 3).trans rfl; have hcz19_4 : w16.cell? ⟨gb211001, 4, none⟩ = some (.slice A0_4 l0_4.length c0_4) := (blk_cell BK211001.out 4).trans rfl; have hfz19_0 := blk_frozen BK211001.out 0; have hfz19_1 := blk_frozen BK211001.out 1; have hfz19_2 := blk_frozen BK211001.out 2; have hfz19_3 := blk_frozen BK211001.out 3; have hfz19_4 := blk_frozen BK211001.out 4) | ((with_reducible refine gate_callee (f := 12) rfl ?_); refine goesL_ (some 14) rfl rfl Try.func12 (by kernel_rfl) rfl #[.agg #[.slice A0_3 l0_3.length c0_3, .slice A0_4 l0_4.length c0_4]] rfl (by (try simp only [List.map_toArray, List.map_cons, List.map_nil]); first | done | rfl | (simp only [List.length_drop, List.length_take]; rfl)) ?_; (with_reducible refine (laws_toWeb.calls k _ _ l0_3 _ _ l0_4 t211011 t211014 _ ?side1 ?side2 ?side3 ?side4 A4.out).mono ?_); (case side1 => exact Kd.C_below HR0_3.out (by repeat (first | (with_reducible first | exact HB.out | apply below_alloc | apply pw_below_drewN | apply below_drew1 | refine below_set ?_ GE211001.out | refine below_set ?_ GE211002.out | refine below_set ?_ GE211003.out) | exact HB.out))); (case side2 => exact HC0_3.out); (case side3 => exact Kd.C_below HR0_4.out (by repeat (first | (with_reducible first | exact HB.out | apply below_alloc | apply pw_below_drewN | apply below_drew1 | refine below_set ?_ GE211001.out | refine below_set ?_ GE211002.out | refine below_set ?_ GE211003.out) | exact HB.out))); (case side4 => exact HC0_4.out); rintro e w20 ⟨v211012, v211015, rfl, ho0, ho1, hb⟩; refine ⟨_, rfl, ?_⟩; have n0_ := Aside0.mk (Kd.R_elder' (by (with_reducible repeat (first | apply Kd.R_alloc | apply Kd.R_drewN | apply Kd.R_drew)); exact (Kd.R_mono (Kd.R_far (p := ⟨gb211003, 2, none⟩) (Kd.R_far (p := ⟨gb211003, 1, none⟩) (Kd.R_types HO211006.out BK211003.out (by decide)) (fun _ hk => hk.2) (.int .i64 t211007)) (fun _ hk => hk.2) (.slice Ao18 t211008.length co18)) (fun _ h_ => h_.1))) (Kd.R_base ho0) hb); have n1_ := Aside0.mk (Kd.S_elder' (by (with_reducible repeat (first | apply Kd.S_alloc | apply Kd.S_drewN | apply Kd.S_drew)); exact (Kd.S_mono (Kd.S_far (p := ⟨gb211003, 2, none⟩) (Kd.S_far (p := ⟨gb211003, 1, none⟩) (Kd.S_types HO211010.out BK211003.out (by decide)) (fun _ hk => hk.2) (.int .i64 t211007)) (fun _ hk => hk.2) (.slice Ao18 t211008.length co18)) (fun _ h_ => h_.1))) (Kd.R_base ho0) hb); have n2_ := Aside0.mk (Kd.R_lower (Kd.R_new' ho0 (Kd.R_lt (by (with_reducible repeat (first | apply Kd.R_alloc | apply Kd.R_drewN | apply Kd.R_drew)); exact (Kd.R_mono (Kd.R_far (p := ⟨gb211003, 2, none⟩) (Kd.R_far (p := ⟨gb211003, 1, none⟩) (Kd.R_types HO211006.out BK211003.out (by decide)) (fun _ hk => hk.2) (.int .i64 t211007)) (fun _ hk => hk.2) (.slice Ao18 t211008.length co18)) (fun _ h_ => h_.1))))) (below_size (by repeat (first | (with_reducible first | exact HB.out | apply below_alloc | apply pw_below_drewN | apply below_drew1 | refine below_set ?_ GE211001.out | refine below_set ?_ GE211002.out | refine below_set ?_ GE211003.out) | exact HB.out)))); have n3_ := Aside0.mk (Kd.S_lower (Kd.S_new' ho1 (Kd.R_lt (by (with_reducible repeat (first | apply Kd.R_alloc | apply Kd.R_drewN | apply Kd.R_drew)); exact (Kd.R_mono (Kd.R_far (p := ⟨gb211003, 2, none⟩) (Kd.R_far (p := ⟨gb211003, 1, none⟩) (Kd.R_types HO211006.out BK211003.out (by decide)) (fun _ hk => hk.2) (.int .i64 t211007)) (fun _ hk => hk.2) (.slice Ao18 t211008.length co18)) (fun _ h_ => h_.1))))) (below_size (by repeat (first | (with_reducible first | exact HB.out | apply below_alloc | apply pw_below_drewN | apply below_drew1 | refine below_set ?_ GE211001.out | refine below_set ?_ GE211002.out | refine below_set ?_ GE211003.out) | exact HB.out)))); have n4_ := Aside0.mk (blk_below (g := gb211001) (o := .cells #[.slice A0_0 l0_0.length c0_0, .int .i64 a0_1, .slice A0_2 l0_2.length c0_2, .slice A0_3 l0_3.length c0_3, .slice A0_4 l0_4.length c0_4] 41 (0, 0)) (by (with_reducible repeat (first | refine blk_drewN ?_ _ | refine blk_drew ?_ | refine blk_alloc ?_ _)); refine blk_far ?_ NB211001_211003.out _; (with_reducible repeat (first | refine blk_drewN ?_ _ | refine blk_drew ?_ | refine blk_alloc ?_ _)); refine blk_far ?_ NB211001_211003.out _; (with_reducible repeat (first | refine blk_drewN ?_ _ | refine blk_drew ?_ | refine blk_alloc ?_ _)); exact BK211001.out) hb); have n5_ := Aside0.mk (blk_below (g := gb211002) (o := .cells #[.slice none 0 0, .int .i64 0, .slice none 0 0, .slice none 0 0, .slice none 0 0] 48 (0, 0)) (by (with_reducible repeat (first | refine blk_drewN ?_ _ | refine blk_drew ?_ | refine blk_alloc ?_ _)); refine blk_far ?_ NB211002_211003.out _; (with_reducible repeat (first | refine blk_drewN ?_ _ | refine blk_drew ?_ | refine blk_alloc ?_ _)); refine blk_far ?_ NB211002_211003.out _; (with_reducible repeat (first | refine blk_drewN ?_ _ | refine blk_drew ?_ | refine blk_alloc ?_ _)); exact BK211002.out) hb); have n6_ := Aside0.mk (blk_below (g := gb211003) (o := .cells #[.slice Ao12 t211004.length co12, .int .i64 t211007, .slice Ao18 t211008.length co18, .slice none 0 0, .slice none 0 0] 48 (0, 0)) (by (with_reducible repeat (first | refine blk_drewN ?_ _ | refine blk_drew ?_ | refine blk_alloc ?_ _)); refine blk_put (cs := #[.slice Ao12 t211004.length co12, .int .i64 t211007, .slice none 0 0, .slice none 0 0, .slice none 0 0]) ?_ 2 _ rfl; (with_reducible repeat (first | refine blk_drewN ?_ _ | refine blk_drew ?_ | refine blk_alloc ?_ _)); refine blk_put (cs := #[.slice Ao12 t211004.length co12, .int .i64 0, .slice none 0 0, .slice none 0 0, .slice none 0 0]) ?_ 1 _ rfl; (with_reducible repeat (first | refine blk_drewN ?_ _ | refine blk_drew ?_ | refine blk_alloc ?_ _)); exact BK211003.out) hb); have n7_ := Aside0.mk (below_step (by repeat (first | (with_reducible first | exact HB.out | apply below_alloc | apply pw_below_drewN | apply below_drew1 | refine below_set ?_ GE211001.out | refine below_set ?_ GE211002.out | refine below_set ?_ GE211003.out) | exact HB.out)) hb); clear HO211006; clear HO211010; clear BK211001; clear BK211002; clear BK211003; clear HB; have HO211006 := n0_; have HO211010 := n1_; have HO211013 := n2_; have HO211016 := n3_; have BK211001 := n4_; have BK211002 := n5_; have BK211003 := n6_; have HB := n7_; clear n0_ n1_ n2_ n3_ n4_ n5_ n6_ n7_; (try clear hb); (try clear hb2); (try clear hk); (try clear hi); (try clear ho0); (try clear ho1); obtain ⟨Ao21, co21, eo21⟩ := Kd.R_slice HO211013.out; subst eo21; have hcz22_0 : w20.cell? ⟨gb211003, 0, none⟩ = some (.slice Ao12 t211004.length co12) := (blk_cell BK211003.out 0).trans rfl; have hcz22_1 : w20.cell? ⟨gb211003, 1, none⟩ = some (.int .i64 t211007) := (blk_cell BK211003.out 1).trans rfl; have hcz22_2 : w20.cell? ⟨gb211003, 2, none⟩ = some (.slice Ao18 t211008.length co18) := (blk_cell BK211003.out 2).trans rfl; have hcz22_3 : w20.cell? ⟨gb211003, 3, none⟩ = some (.slice none 0 0) := (blk_cell BK211003.out 3).trans rfl; have hcz22_4 : w20.cell? ⟨gb211003, 4, none⟩ = some (.slice none 0 0) := (blk_cell BK211003.out 4).trans rfl; have hfz22_0 := blk_frozen BK211003.out 0; have hfz22_1 := blk_frozen BK211003.out 1; have hfz22_2 := blk_frozen BK211003.out 2; have hfz22_3 := blk_frozen BK211003.out 3; have hfz22_4 := blk_frozen BK211003.out 4; obtain ⟨Ao23, co23, eo23⟩ := Kd.S_slice HO211016.out; subst eo23; have hcz24_0 : w20.cell? ⟨gb211002, 0, none⟩ = some (.slice none 0 0) := (blk_cell BK211002.out 0).trans rfl; have hcz24_1 : w20.cell? ⟨gb211002, 1, none⟩ = some (.int .i64 0) := (blk_cell BK211002.out 1).trans rfl; have hcz24_2 : w20.cell? ⟨gb211002, 2, none⟩ = some (.slice none 0 0) := (blk_cell BK211002.out 2).trans rfl; have hcz24_3 : w20.cell? ⟨gb211002, 3, none⟩ = some (.slice none 0 0) := (blk_cell BK211002.out 3).trans rfl; have hcz24_4 : w20.cell? ⟨gb211002, 4, none⟩ = some (.slice none 0 0) := (blk_cell BK211002.out 4).trans rfl; have hfz24_0 := blk_frozen BK211002.out 0; have hfz24_1 := blk_frozen BK211002.out 1; have hfz24_2 := blk_frozen BK211002.out 2; have hfz24_3 := blk_frozen BK211002.out 3; have hfz24_4 := blk_frozen BK211002.out 4))
 refine bodyPost_ret (results_cell_row rfl _ _ gb211002 48 #[.slice Ao12 t211004.length co12, .int .i64 t211007, .slice Ao18 t211008.length co18, .slice Ao21 t211011.length co21, .slice Ao23 t211014.length co23] (0, 0) _ rfl (by (with_reducible repeat (first | refine blk_drewN ?_ _ | refine blk_drew ?_ | refine blk_alloc ?_ _)); refine blk_put (cs := #[.slice Ao12 t211004.length co12, .int .i64 t211007, .slice Ao18 t211008.length co18, .slice Ao21 t211011.length co21, .slice none 0 0]) ?_ 4 _ rfl; (with_reducible repeat (first | refine blk_drewN ?_ _ | refine blk_drew ?_ | refine blk_alloc ?_ _)); refine blk_put (cs := #[.slice Ao12 t211004.length co12, .int .i64 t211007, .slice Ao18 t211008.length co18, .slice none 0 0, .slice none 0 0]) ?_ 3 _ rfl; (with_reducible repeat (first | refine blk_drewN ?_ _ | refine blk_drew ?_ | refine blk_alloc ?_ _)); refine blk_put (cs := #[.slice Ao12 t211004.length co12, .int .i64 t211007, .slice none 0 0, .slice none 0 0, .slice none 0 0]) ?_ 2 _ rfl; (with_reducible repeat (first | refine blk_drewN ?_ _ | refine blk_drew ?_ | refine blk_alloc ?_ _)); refine blk_put (cs := #[.slice Ao12 t211004.length co12, .int .i64 0, .slice none 0 0, .slice none 0 0, .slice none 0 0]) ?_ 1 _ rfl; (with_reducible repeat (first | refine blk_drewN ?_ _ | refine blk_drew ?_ | refine blk_alloc ?_ _)); refine blk_put (cs := #[.slice none 0 0, .int .i64 0, .slice none 0 0, .slice none 0 0, .slice none 0 0]) ?_ 0 _ rfl; (with_reducible repeat (first | refine blk_drewN ?_ _ | refine blk_drew ?_ | refine blk_alloc ?_ _)); refine blk_far ?_ NB211002_211003.out _; (with_reducible repeat (first | refine blk_drewN ?_ _ | refine blk_drew ?_ | refine blk_alloc ?_ _)); refine blk_far ?_ NB211002_211003.out _; (with_reducible repeat (first | refine blk_drewN ?_ _ | refine blk_drew ?_ | refine blk_alloc ?_ _)); exact BK211002.out) Try.underlying48 rfl (by kernel_rfl)) rfl ?_
 exact ⟨_, _, _, _, by first | rfl | (simp [errW_none, errW_some] <;> rfl) | (simp [*, errW_none, errW_some] <;> rfl), by (with_reducible repeat (first | apply Kd.R_alloc | apply Kd.R_drewN | apply Kd.R_drew)); exact Kd.R_mono (Kd.R_far (p := ⟨gb211002, 4, none⟩) (Kd.R_far (p := ⟨gb211002, 3, none⟩) (Kd.R_far (p := ⟨gb211002, 2, none⟩) (Kd.R_far (p := ⟨gb211002, 1, none⟩) (Kd.R_far (p := ⟨gb211002, 0, none⟩) (Kd.R_far (p := ⟨gb211003, 4, none⟩) (Kd.R_far (p := ⟨gb211003, 3, none⟩) (Kd.R_types (Kd.R_types HO211006.out BK211003.out (by decide)) BK211002.out (by decide)) (fun _ hk => hk.1.2) (.slice Ao21 t211011.length co21)) (fun _ hk => hk.1.2) (.slice Ao23 t211014.length co23)) (fun _ hk => hk.2) (.slice Ao12 t211004.length co12)) (fun _ hk => hk.2) (.int .i64 t211007)) (fun _ hk => hk.2) (.slice Ao18 t211008.length co18)) (fun _ hk => hk.2) (.slice Ao21 t211011.length co21)) (fun _ hk => hk.2) (.slice Ao23 t211014.length co23)) (fun _ hk => hk.1.1.2), by (with_reducible repeat (first | apply Kd.S_alloc | apply Kd.S_drewN | apply Kd.S_drew)); exact Kd.S_mono (Kd.S_far (p := ⟨gb211002, 4, none⟩) (Kd.S_far (p := ⟨gb211002, 3, none⟩) (Kd.S_far (p := ⟨gb211002, 2, none⟩) (Kd.S_far (p := ⟨gb211002, 1, none⟩) (Kd.S_far (p := ⟨gb211002, 0, none⟩) (Kd.S_far (p := ⟨gb211003, 4, none⟩) (Kd.S_far (p := ⟨gb211003, 3, none⟩) (Kd.S_types (Kd.S_types HO211010.out BK211003.out (by decide)) BK211002.out (by decide)) (fun _ hk => hk.1.2) (.slice Ao21 t211011.length co21)) (fun _ hk => hk.1.2) (.slice Ao23 t211014.length co23)) (fun _ hk => hk.2) (.slice Ao12 t211004.length co12)) (fun _ hk => hk.2) (.int .i64 t211007)) (fun _ hk => hk.2) (.slice Ao18 t211008.length co18)) (fun _ hk => hk.2) (.slice Ao21 t211011.length co21)) (fun _ hk => hk.2) (.slice Ao23 t211014.length co23)) (fun _ hk => ⟨hk.1.1.1.2, hk.1.1.2⟩), by (with_reducible repeat (first | apply Kd.R_alloc | apply Kd.R_drewN | apply Kd.R_drew)); exact Kd.R_mono (Kd.R_far (p := ⟨gb211002, 4, none⟩) (Kd.R_far (p := ⟨gb211002, 3, none⟩) (Kd.R_far (p := ⟨gb211002, 2, none⟩) (Kd.R_far (p := ⟨gb211002, 1, none⟩) (Kd.R_far (p := ⟨gb211002, 0, none⟩) (Kd.R_far (p := ⟨gb211003, 4, none⟩) (Kd.R_far (p := ⟨gb211003, 3, none⟩) (Kd.R_types (Kd.R_types HO211013.out BK211003.out (by decide)) BK211002.out (by decide)) (fun _ hk => hk.1.2) (.slice Ao21 t211011.length co21)) (fun _ hk => hk.1.2) (.slice Ao23 t211014.length co23)) (fun _ hk => hk.2) (.slice Ao12 t211004.length co12)) (fun _ hk => hk.2) (.int .i64 t211007)) (fun _ hk => hk.2) (.slice Ao18 t211008.length co18)) (fun _ hk => hk.2) (.slice Ao21 t211011.length co21)) (fun _ hk => hk.2) (.slice Ao23 t211014.length co23)) (fun _ hk => hk.1.1.2), by (with_reducible repeat (first | apply Kd.S_alloc | apply Kd.S_drewN | apply Kd.S_drew)); exact Kd.S_mono (Kd.S_far (p := ⟨gb211002, 4, none⟩) (Kd.S_far (p := ⟨gb211002, 3, none⟩) (Kd.S_far (p := ⟨gb211002, 2, none⟩) (Kd.S_far (p := ⟨gb211002, 1, none⟩) (Kd.S_far (p := ⟨gb211002, 0, none⟩) (Kd.S_far (p := ⟨gb211003, 4, none⟩) (Kd.S_far (p := ⟨gb211003, 3, none⟩) (Kd.S_types (Kd.S_types HO211016.out BK211003.out (by decide)) BK211002.out (by decide)) (fun _ hk => hk.1.2) (.slice Ao21 t211011.length co21)) (fun _ hk => hk.1.2) (.slice Ao23 t211014.length co23)) (fun _ hk => hk.2) (.slice Ao12 t211004.length co12)) (fun _ hk => hk.2) (.int .i64 t211007)) (fun _ hk => hk.2) (.slice Ao18 t211008.length co18)) (fun _ hk => hk.2) (.slice Ao21 t211011.length co21)) (fun _ hk => hk.2) (.slice Ao23 t211014.length co23)) (fun _ hk => ⟨hk.1.1.2, hk.1.1.1⟩), by repeat (first | (with_reducible first | exact HB.out | apply below_alloc | apply pw_below_drewN | apply below_drew1 | refine below_set ?_ GE211001.out | refine below_set ?_ GE211002.out | refine below_set ?_ GE211003.out) | exact HB.out)⟩
end Go.Proofs.Ytmeggliapebkgaa.F
end
section
namespace Go.Proofs.Ytmeggliapebkgaa.Mem
open Go.RowKit Go.Proofs.YtmeggliapebkgaaW.PrintWords Go.Proofs.YtmeggliapebkgaaW.PrintLast
theorem nums_get (xs : List Int) (j : Nat) (h : j < xs.length) : (nums .i64 xs).toArray[j]? = some (.int .i64 (xs.getD j 0)) := by
  simp [nums, List.getElem?_eq_getElem h, List.getD_eq_getElem?_getD]
theorem nums_set (xs : List Int) (j : Nat) (x : Int) : (nums .i64 xs).toArray.setIfInBounds j (.int .i64 x) = (nums .i64 (xs.set j x)).toArray := by
  simp [nums, List.map_set]
theorem grown_refl (w : World) (row : Option Nat) : w.grownBy w row := ⟨rfl, rfl, rfl, Nat.le_refl _, fun _ _ _ => rfl⟩
theorem grown_trans {w w1 w2 : World} {row : Option Nat} (h : w.grownBy w1 row) (g : w1.grownBy w2 row) : w.grownBy w2 row :=
  ⟨g.os.trans h.os, g.tape.trans h.tape, g.output.trans h.output, Nat.le_trans h.size g.size, fun k hk hr => (g.block k (Nat.lt_of_lt_of_le hk h.size) hr).trans (h.block k hk hr)⟩
theorem grown_set {w w1 : World} {B : Nat} (h : w.grownBy w1 (some B)) (i : Nat) (u : Value) : w.grownBy (w1.setCell ⟨B, i, none⟩ u) (some B) :=
  ⟨h.os, h.tape, h.output, by simpa [World.setCell] using h.size, fun k hk hr => (Below.heap_setCell w1 ⟨B, i, none⟩ u k (fun e => hr (by rw [e]))).trans (h.block k hk hr)⟩
theorem grown_drewN {w w1 : World} {row : Option Nat} (h : w.grownBy w1 row) (n : Nat) : w.grownBy (w1.drewN n) row := ⟨h.os, h.tape, h.output, h.size, h.block⟩
theorem grown_drew {w w1 : World} {row : Option Nat} (h : w.grownBy w1 row) : w.grownBy w1.drew row := ⟨h.os, h.tape, h.output, h.size, h.block⟩
theorem grown_below {w w1 : World} (h : w.grownBy w1 none) : Below w.heap.size w w1 := ⟨h.os, h.tape, h.output, h.size, fun k hk => h.block k hk (by simp)⟩
theorem gb_of_below {w w1 : World} (h : Below w.heap.size w w1) (row : Option Nat) : w.grownBy w1 row := ⟨h.os, h.tape, h.output, h.size, fun k hk _ => h.block k hk⟩
theorem grown_of_none {w w1 : World} (h : w.grownBy w1 none) (row : Option Nat) : w.grownBy w1 row := gb_of_below (grown_below h) row
theorem below_grown {w0 w w1 : World} {B : Nat} (h : Below w0.heap.size w0 w) (g : w.grownBy w1 (some B)) (hB : w0.heap.size ≤ B) : Below w0.heap.size w0 w1 :=
  h.grown g h.size (fun k hk => by injection hk with hk; omega)
theorem cell_of_C {w : World} {A : Option Addr} {n : Nat} {xs : List Int} (h : Kd.C (Kd.int .i64) w A n xs) (j : Nat) (hj : j < n) : ∃ ad, A = some ad ∧ w.cell? (ad.add j) = some (.int .i64 (xs.getD j 0)) := by
  obtain ⟨hl, _, hc⟩ := h
  obtain ⟨ad, e, hc⟩ := hc (by omega)
  have hjl : j < xs.length := by omega
  obtain ⟨c, hc1, hc2, hc3⟩ := hc j _ (List.getElem?_eq_getElem hjl)
  refine ⟨ad, e, ?_⟩
  have hc2' : c = [.int .i64 xs[j]] := hc2
  have := hc3 0 _ (by rw [hc2']; rfl)
  rw [show (Kd.int .i64).sz = 1 from rfl, Nat.mul_one, Nat.add_zero] at this
  rw [this, List.getD_eq_getElem?_getD, List.getElem?_eq_getElem hjl]; rfl
theorem reps_nums {w : World} {base : Nat} {ok : Nat → Prop} (xs : List Int) : Reps ((Kd.int .i64).M w base ok) 1 xs (nums .i64 xs) := by
  refine ⟨by simp [nums], fun j p hj => ?_⟩
  show ((nums .i64 xs).drop (j * 1)).take 1 = [.int .i64 p]
  have hj' := List.getElem?_eq_some_iff.1 hj
  rw [Nat.mul_one, List.drop_eq_getElem_cons (by simp [nums]; exact hj'.1)]
  simp [nums, hj'.2]
theorem R_of_block {w : World} {B m : Nat} {xs : List Int} {e : Nat} (hb : w.heap[B]? = some (.cells (nums .i64 xs).toArray e (0, 0))) (hl : xs.length = m) (hm : m ≤ maxLen) {base : Nat} (hbase : base ≤ B) :
    Kd.R (Kd.int .i64) e w base (fun _ => True) (.slice (some ⟨B, 0, none⟩) m m) xs := by
  refine ⟨fun _ _ => trivial, nums .i64 xs, ⟨?_, .inr ⟨B, m, _, by rw [hl], hbase, hb, by omega, hm, ?_, ?_⟩⟩, ?_⟩
  · show _ = xs.length * 1
    simp [nums]
  · show _ = m * 1
    simp [nums, hl]
  · show List.take (xs.length * 1) _ = _
    rw [Nat.mul_one]
    exact List.take_of_length_le (by simp [nums])
  · exact reps_nums xs
theorem R_of_own {w : World} {base e : Nat} {v : Value} {xs : List Int} (h : w.ownsRow base e 1 v xs.length (nums .i64 xs)) : Kd.R (Kd.int .i64) e w base (fun k => base ≤ k) v xs :=
  ⟨fun k hk => own_base h k hk, nums .i64 xs, h, reps_nums xs⟩
theorem new_at {w : World} {o : Obj} {B : Nat} (h : B = w.heap.size) : (w.alloc o).heap[B]? = some o := by subst h; exact blk_new w o
theorem made_nums (m : Nat) : madeCells (Value.cells (.int .i64 0)) m = (nums .i64 (List.replicate m 0)).toArray := by
  apply Array.ext
  · rw [size_madeCells]; simp [nums]
  · intro j h1 h2
    have hj : j < m := by rw [size_madeCells] at h1; exact h1
    simp [madeCells, nums, Value.cells, Nat.mod_one]
theorem make_ints {P : Program} {t e : TypeId} (ht : P.underlying t = some (.slice e)) (hinfo : (P.info? e).map (fun i => (i.zero, i.size, i.bytes)) = some (some (.int .i64 0), 1, 8)) (x : Int) (m : Nat) (hx : x = (m : Int)) (hm : m ≤ 35184372088832) (W : World) :
    (Instr.makeSlice t (.int .i64 x) (.int .i64 x)).run P W = .ok (.slice (some ⟨W.heap.size, 0, none⟩) m m) (W.alloc (.cells (nums .i64 (List.replicate m 0)).toArray e)) := by
  subst hx
  obtain ⟨i0, hi, hzz⟩ := Option.map_eq_some_iff.1 hinfo
  simp only [Prod.mk.injEq] at hzz
  obtain ⟨hz0, hz1, hz2⟩ := hzz
  have h := run_make (P := P) W t e i0 (.int .i64 0) ht hi hz0 .i64 .i64 m m (by omega) (Int.le_refl _) (by rw [hz2]; omega) (by omega)
  rw [h, Int.toNat_natCast, hz1, Nat.mul_one, made_nums]
def ints (l : List Nat) : List Int := l.map fun i : Nat => (i : Int)
theorem ints_len (l : List Nat) : (ints l).length = l.length := by simp [ints]
theorem ints_app (l m : List Nat) : ints (l ++ m) = ints l ++ ints m := by simp [ints]
theorem ints_getD (l : List Nat) (j : Nat) (h : j < l.length) : (ints l).getD j 0 = ((l.getD j 0 : Nat) : Int) := by
  unfold ints
  rw [List.getD_eq_getElem?_getD, List.getD_eq_getElem?_getD, List.getElem?_map, List.getElem?_eq_getElem h]; rfl
end Go.Proofs.Ytmeggliapebkgaa.Mem
end
section
namespace Go.Proofs.Ytmeggliapebkgaa.Web
set_option linter.unusedVariables false
set_option linter.unusedSimpArgs false
def inc (legs : List Int) (forks : List (List Int)) : List (Int × Nat) := legs.zipIdx ++ (forks.zipIdx legs.length).flatMap fun p => p.1.map fun e => (e, p.2)
def ends (I : List (Int × Nat)) (e : Int) : List Nat := (I.filter fun p => p.1 == e).map fun p => p.2
theorem mem_ends {I : List (Int × Nat)} {e : Int} {u : Nat} : u ∈ ends I e ↔ (e, u) ∈ I := by
  unfold ends
  rw [List.mem_map]
  constructor
  · rintro ⟨p, hp, rfl⟩
    obtain ⟨h1, h2⟩ := List.mem_filter.1 hp
    rw [← eq_of_beq h2]; exact h1
  · exact fun h => ⟨_, List.mem_filter.2 ⟨h, by simp⟩, rfl⟩
def J (I : List (Int × Nat)) (u v : Nat) : Prop := ∃ e, (e, u) ∈ I ∧ (e, v) ∈ I
theorem J.symm {I : List (Int × Nat)} {u v : Nat} (h : J I u v) : J I v u := by obtain ⟨e, a, b⟩ := h; exact ⟨e, b, a⟩
inductive Reach (I : List (Int × Nat)) : Nat → Nat → Prop
  | refl (v : Nat) : Reach I v v
  | step {u v x : Nat} : Reach I u v → J I v x → Reach I u x
theorem Reach.trans {I : List (Int × Nat)} {a b c : Nat} (h : Reach I a b) (g : Reach I b c) : Reach I a c := by
  induction g with
  | refl => exact h
  | step _ j ih => exact .step ih j
theorem Reach.symm {I : List (Int × Nat)} {a b : Nat} (h : Reach I a b) : Reach I b a := by
  induction h with
  | refl => exact .refl _
  | step _ j ih => exact (Reach.step (.refl _) j.symm).trans ih
theorem least (P : Nat → Prop) : ∀ n, P n → ∃ m, P m ∧ ∀ k, P k → m ≤ k := by
  intro n
  induction n using Nat.strongRecOn with
  | ind n ih =>
    intro h
    by_cases g : ∃ k, k < n ∧ P k
    · obtain ⟨k, hk, hp⟩ := g; exact ih k hk hp
    · exact ⟨n, h, fun k hk => Nat.le_of_not_lt fun hlt => g ⟨k, hlt, hk⟩⟩
noncomputable def lbl (I : List (Int × Nat)) (v : Nat) : Nat := Classical.choose (least (Reach I v) v (.refl v))
theorem lbl_reach (I : List (Int × Nat)) (v : Nat) : Reach I v (lbl I v) := (Classical.choose_spec (least (Reach I v) v (.refl v))).1
theorem lbl_least {I : List (Int × Nat)} {v k : Nat} (h : Reach I v k) : lbl I v ≤ k := (Classical.choose_spec (least (Reach I v) v (.refl v))).2 k h
theorem lbl_le (I : List (Int × Nat)) (v : Nat) : lbl I v ≤ v := lbl_least (.refl v)
theorem lbl_same {I : List (Int × Nat)} {u v : Nat} (h : Reach I u v) : lbl I u = lbl I v :=
  Nat.le_antisymm (lbl_least (h.trans (lbl_reach I v))) (lbl_least (h.symm.trans (lbl_reach I u)))
theorem lbl_one {I : List (Int × Nat)} {u v : Nat} (h : J I u v) : lbl I u = lbl I v := lbl_same (.step (.refl _) h)
theorem lbl_idem (I : List (Int × Nat)) (v : Nat) : lbl I (lbl I v) = lbl I v := (lbl_same (lbl_reach I v)).symm
theorem lbl_two {I : List (Int × Nat)} {S : Nat → Prop} (hS : ∀ u v, J I u v → S u → S v) {v : Nat} (h : S v) : S (lbl I v) := by
  have key : ∀ {a b}, Reach I a b → S a → S b := by
    intro a b hr
    induction hr with
    | refl => exact fun h => h
    | step _ j ih => exact fun h => hS _ _ j (ih h)
  exact key (lbl_reach I v) h
def at_ (out : List Nat) (v : Nat) : Nat := out.getD v 0
structure Fits (I : List (Int × Nat)) (n : Nat) (out : List Nat) : Prop where
  len : out.length = n
  le : ∀ v, v < n → at_ out v ≤ v
  cls : ∀ v, v < n → lbl I (at_ out v) = lbl I v
theorem Fits.ge {I : List (Int × Nat)} {n : Nat} {out : List Nat} (h : Fits I n out) {v : Nat} (hv : v < n) : lbl I v ≤ at_ out v := by
  rw [← h.cls v hv]; exact lbl_le _ _
theorem at_set {out : List Nat} {i v x : Nat} (hi : i < out.length) : at_ (out.set i x) v = if v = i then x else at_ out v := by
  unfold at_
  rw [List.getD_eq_getElem?_getD, List.getElem?_set]
  by_cases e : i = v
  · rw [if_pos e, if_pos (by omega), if_pos e.symm]; rfl
  · rw [if_neg e, if_neg (Ne.symm e), ← List.getD_eq_getElem?_getD]
def low2 (out : List Nat) (a b : Nat) : Nat := min (at_ out a) (at_ out b)
def relax2 (out : List Nat) (a b : Nat) : List Nat := (out.set a (low2 out a b)).set b (low2 out a b)
theorem relax2_at {out : List Nat} {a b v : Nat} (ha : a < out.length) (hb : b < out.length) : at_ (relax2 out a b) v = if v = a ∨ v = b then low2 out a b else at_ out v := by
  unfold relax2
  rw [at_set (by rw [List.length_set]; exact hb), at_set ha]
  by_cases e : v = b
  · rw [if_pos e, if_pos (.inr e)]
  · rw [if_neg e]
    by_cases g : v = a
    · rw [if_pos g, if_pos (.inl g)]
    · rw [if_neg g, if_neg (by rintro (h | h); exact g h; exact e h)]
theorem Fits.relax {I : List (Int × Nat)} {n : Nat} {out : List Nat} (h : Fits I n out) {a b : Nat} (ha : a < n) (hb : b < n) (hj : J I a b) : Fits I n (relax2 out a b) := by
  have hl := h.len
  have e := lbl_one hj
  have h1 := h.le a ha
  have h2 := h.le b hb
  have c1 := h.cls a ha
  have c2 := h.cls b hb
  have g1 := h.ge ha
  have g2 := h.ge hb
  refine ⟨by unfold relax2; rw [List.length_set, List.length_set]; exact hl, fun v hv => ?_, fun v hv => ?_⟩
  · rw [relax2_at (by omega) (by omega)]
    split
    · rename_i g; unfold low2
      rcases g with g | g <;> subst g
      · omega
      · omega
    · exact h.le v hv
  · rw [relax2_at (by omega) (by omega)]
    split
    · rename_i g
      have : lbl I (low2 out a b) = lbl I a := by
        unfold low2
        rcases Nat.le_total (at_ out a) (at_ out b) with q | q
        · rw [Nat.min_eq_left q]; exact c1
        · rw [Nat.min_eq_right q, c2]; exact e.symm
      rcases g with g | g <;> subst g
      · exact this
      · rw [this]; exact e
    · exact h.cls v hv
theorem relax2_le {I : List (Int × Nat)} {n : Nat} {out : List Nat} (h : Fits I n out) {a b v : Nat} (ha : a < n) (hb : b < n) : at_ (relax2 out a b) v ≤ at_ out v := by
  have hl := h.len
  rw [relax2_at (by omega) (by omega)]
  split
  · rename_i g; unfold low2
    rcases g with g | g <;> subst g
    · exact Nat.min_le_left _ _
    · exact Nat.min_le_right _ _
  · exact Nat.le_refl _
def Set_ (I : List (Int × Nat)) (out : List Nat) (v : Nat) : Prop := at_ out v = lbl I v
theorem Set_.keep {I : List (Int × Nat)} {n : Nat} {out : List Nat} (h : Fits I n out) {a b v : Nat} (ha : a < n) (hb : b < n) (hj : J I a b) (hv : v < n) (hs : Set_ I out v) : Set_ I (relax2 out a b) v := by
  have h1 := relax2_le h ha hb (v := v)
  have h2 := (h.relax ha hb hj).ge hv
  unfold Set_ at *
  omega
theorem Set_.both {I : List (Int × Nat)} {n : Nat} {out : List Nat} (h : Fits I n out) {a b : Nat} (ha : a < n) (hb : b < n) (hj : J I a b) (hs : Set_ I out a ∨ Set_ I out b) : Set_ I (relax2 out a b) a ∧ Set_ I (relax2 out a b) b := by
  have hl := h.len
  have e := lbl_one hj
  have g1 := h.ge ha
  have g2 := h.ge hb
  unfold Set_ at *
  rw [relax2_at (by omega) (by omega), relax2_at (by omega) (by omega), if_pos (.inl rfl), if_pos (.inr rfl)]
  unfold low2
  rcases hs with hs | hs <;> omega
def relax (I : List (Int × Nat)) (out : List Nat) (e : Int) : List Nat := relax2 out ((ends I e).getD 0 0) ((ends I e).getD 1 0)
structure Two (I : List (Int × Nat)) (n : Nat) : Prop where
  two : ∀ e u, (e, u) ∈ I → (ends I e).length = 2
  lt : ∀ e u, (e, u) ∈ I → u < n
theorem Two.at_ {I : List (Int × Nat)} {n : Nat} (h : Two I n) {e : Int} {u : Nat} (he : (e, u) ∈ I) : ∃ a b, ends I e = [a, b] ∧ a < n ∧ b < n ∧ J I a b ∧ (u = a ∨ u = b) := by
  have h2 := h.two e u he
  match hh : ends I e, h2 with
  | [a, b], _ =>
    have ha : (e, a) ∈ I := mem_ends.1 (by rw [hh]; simp)
    have hb : (e, b) ∈ I := mem_ends.1 (by rw [hh]; simp)
    have hu : u ∈ ends I e := mem_ends.2 he
    rw [hh] at hu
    exact ⟨a, b, rfl, h.lt e a ha, h.lt e b hb, ⟨e, ha, hb⟩, by simpa using hu⟩
theorem fold_keep {I : List (Int × Nat)} {n : Nat} (h2 : Two I n) : ∀ (L : List Int) (out : List Nat), (∀ e ∈ L, ∃ u, (e, u) ∈ I) → Fits I n out → Fits I n (L.foldl (relax I) out) ∧ ∀ v, v < n → Set_ I out v → Set_ I (L.foldl (relax I) out) v
  | [], out, _, h => ⟨h, fun _ _ hs => hs⟩
  | e :: L, out, hL, h => by
    obtain ⟨u, hu⟩ := hL e List.mem_cons_self
    obtain ⟨a, b, he, ha, hb, hj, _⟩ := h2.at_ hu
    have hr : relax I out e = relax2 out a b := by unfold relax; rw [he]; rfl
    rw [List.foldl_cons, hr]
    have ih := fold_keep h2 L (relax2 out a b) (fun e he => hL e (List.mem_cons_of_mem _ he)) (h.relax ha hb hj)
    exact ⟨ih.1, fun v hv hs => ih.2 v hv (hs.keep h ha hb hj hv)⟩
theorem fold_step {I : List (Int × Nat)} {n : Nat} (h2 : Two I n) {u v : Nat} (hu : u < n) {e : Int} (hue : (e, u) ∈ I) (hve : (e, v) ∈ I) : ∀ (L : List Int) (out : List Nat), (∀ e ∈ L, ∃ u, (e, u) ∈ I) → Fits I n out → e ∈ L → Set_ I out u → Set_ I (L.foldl (relax I) out) v
  | [], _, _, _, h, _ => absurd h (by simp)
  | c :: L, out, hL, h, hm, hs => by
    obtain ⟨z, hz⟩ := hL c List.mem_cons_self
    obtain ⟨a, b, he, ha, hb, hj, _⟩ := h2.at_ hz
    have hr : relax I out c = relax2 out a b := by unfold relax; rw [he]; rfl
    rw [List.foldl_cons, hr]
    by_cases g : e = c
    · subst g
      have h1 : u ∈ ends I e := mem_ends.2 hue
      have h3 : v ∈ ends I e := mem_ends.2 hve
      rw [he] at h1 h3
      have hb2 := Set_.both h ha hb hj (by simp at h1; rcases h1 with q | q <;> subst q; exact .inl hs; exact .inr hs)
      refine (fold_keep h2 L _ (fun e he => hL e (List.mem_cons_of_mem _ he)) (h.relax ha hb hj)).2 v (h2.lt e v hve) ?_
      simp at h3
      rcases h3 with q | q <;> subst q
      · exact hb2.1
      · exact hb2.2
    · exact fold_step h2 hu hue hve L _ (fun e he => hL e (List.mem_cons_of_mem _ he)) (h.relax ha hb hj) (by
        rcases List.mem_cons.1 hm with q | q
        · exact absurd q g
        · exact q) (hs.keep h ha hb hj hu)
def Round (I : List (Int × Nat)) (out out' : List Nat) : Prop := ∃ L : List Int, (∀ e, e ∈ L ↔ ∃ u, (e, u) ∈ I) ∧ out' = L.foldl (relax I) out
inductive Rounds (I : List (Int × Nat)) (n : Nat) : Nat → List Nat → Prop
  | zero : Rounds I n 0 (List.range n)
  | succ {t : Nat} {out out' : List Nat} : Rounds I n t out → Round I out out' → Rounds I n (t + 1) out'
def cnt (p : Nat → Bool) : Nat → Nat
  | 0 => 0
  | n + 1 => cnt p n + if p n = true then 1 else 0
theorem cnt_le (p : Nat → Bool) : ∀ n, cnt p n ≤ n
  | 0 => Nat.le_refl _
  | n + 1 => by have := cnt_le p n; rw [cnt]; split <;> omega
theorem cnt_mono {p q : Nat → Bool} : ∀ n, (∀ v, v < n → p v = true → q v = true) → cnt p n ≤ cnt q n
  | 0, _ => Nat.le_refl _
  | n + 1, h => by
    have := cnt_mono n (fun v hv => h v (by omega))
    rw [cnt, cnt]
    by_cases g : p n = true
    · rw [if_pos g, if_pos (h n (by omega) g)]; omega
    · rw [if_neg g]; split <;> omega
theorem cnt_lt {p q : Nat → Bool} {v : Nat} (hp : p v = false) (hq : q v = true) : ∀ n, v < n → (∀ v, v < n → p v = true → q v = true) → cnt p n < cnt q n
  | 0, h, _ => absurd h (by omega)
  | n + 1, hv, h => by
    rw [cnt, cnt]
    by_cases e : v = n
    · subst e
      have := cnt_mono v (fun x hx => h x (by omega))
      rw [hp, hq]; simp; omega
    · have := cnt_lt hp hq n (by omega) (fun x hx => h x (by omega))
      by_cases g : p n = true
      · rw [if_pos g, if_pos (h n (by omega) g)]; omega
      · rw [if_neg g]; split <;> omega
theorem cnt_pos {p : Nat → Bool} {v : Nat} (hp : p v = true) : ∀ n, v < n → 1 ≤ cnt p n := by
  intro n hv
  have := cnt_lt (p := fun _ => false) (q := p) (v := v) rfl hp n hv (fun _ _ h => absurd h (by simp))
  omega
theorem range_fits (I : List (Int × Nat)) (n : Nat) : Fits I n (List.range n) := by
  have h : ∀ v, v < n → at_ (List.range n) v = v := fun v hv => by unfold at_; rw [List.getD_eq_getElem?_getD, List.getElem?_range hv]; rfl
  exact ⟨by simp, fun v hv => by rw [h v hv]; exact Nat.le_refl _, fun v hv => by rw [h v hv]⟩
theorem rounds_fits {I : List (Int × Nat)} {n : Nat} (h2 : Two I n) {t : Nat} {out : List Nat} (h : Rounds I n t out) : Fits I n out := by
  induction h with
  | zero => exact range_fits I n
  | succ _ hr ih =>
    obtain ⟨L, hL, rfl⟩ := hr
    exact (fold_keep h2 L _ (fun e he => (hL e).1 he) ih).1
theorem rounds_count {I : List (Int × Nat)} {n : Nat} (h2 : Two I n) {t : Nat} {out : List Nat} (h : Rounds I n t out) (m : Nat) (hm : m < n) (hmm : lbl I m = m) :
    (∀ v, v < n → lbl I v = m → Set_ I out v) ∨ t + 1 ≤ cnt (fun v => decide (lbl I v = m ∧ at_ out v = lbl I v)) n := by
  induction h with
  | zero =>
    refine .inr (cnt_pos (v := m) (decide_eq_true ⟨hmm, ?_⟩) n hm)
    have h := range_fits I n
    have := h.le m hm
    have := h.ge hm
    omega
  | @succ t out out' hr hro ih =>
    have hF := rounds_fits h2 hr
    obtain ⟨L, hL, rfl⟩ := hro
    have hk := fold_keep h2 L out (fun e he => (hL e).1 he) hF
    rcases ih with ih | ih
    · exact .inl fun v hv hvm => hk.2 v hv (ih v hv hvm)
    · by_cases hall : ∀ v, v < n → lbl I v = m → Set_ I out v
      · exact .inl fun v hv hvm => hk.2 v hv (hall v hv hvm)
      · refine .inr ?_
        have hcross : ∃ u v, J I u v ∧ u < n ∧ v < n ∧ lbl I u = m ∧ Set_ I out u ∧ ¬ Set_ I out v := by
          refine Classical.byContradiction fun hno => hall fun v hv hvm => Classical.byContradiction fun hs => ?_
          have hcl : ∀ u w, J I u w → ¬ (lbl I u = m ∧ Set_ I out u) → ¬ (lbl I w = m ∧ Set_ I out w) := by
            intro u w hj hnu hw
            obtain ⟨e, h1, h3⟩ := hj
            refine hno ⟨w, u, ⟨e, h3, h1⟩, h2.lt e w h3, h2.lt e u h1, hw.1, hw.2, fun hsu => hnu ⟨?_, hsu⟩⟩
            rw [lbl_one ⟨e, h1, h3⟩]; exact hw.1
          have := lbl_two hcl (v := v) (fun h => hs h.2)
          rw [hvm] at this
          refine this ⟨hmm, ?_⟩
          have h3 := hF.le m hm
          have h4 := hF.ge hm
          unfold Set_; omega
        obtain ⟨u, v, ⟨e, hue, hve⟩, hu, hv, hum, hsu, hsv⟩ := hcross
        have hsv2 := fold_step h2 hu hue hve L out (fun e he => (hL e).1 he) hF ((hL e).2 ⟨u, hue⟩) hsu
        have hvm : lbl I v = m := by rw [← hum]; exact (lbl_one ⟨e, hue, hve⟩).symm
        have := cnt_lt (p := fun v => decide (lbl I v = m ∧ at_ out v = lbl I v)) (q := fun v => decide (lbl I v = m ∧ at_ (L.foldl (relax I) out) v = lbl I v)) (v := v) (decide_eq_false fun h => hsv h.2) (decide_eq_true ⟨hvm, hsv2⟩) n hv (fun x hx hp => by
          have hp := of_decide_eq_true hp
          exact decide_eq_true ⟨hp.1, hk.2 x hx hp.2⟩)
        omega
theorem fits_eq {I : List (Int × Nat)} {n : Nat} {out : List Nat} (h : Fits I n out) (hs : ∀ v, v < n → Set_ I out v) : out = (List.range n).map (lbl I) := by
  apply List.ext_getElem
  · rw [h.len]; simp
  · intro v h1 h2
    have hv : v < n := by rw [← h.len]; exact h1
    have := hs v hv
    unfold Set_ at_ at this
    rw [List.getD_eq_getElem?_getD, List.getElem?_eq_getElem h1] at this
    simpa using this
theorem rounds_lbl {I : List (Int × Nat)} {n : Nat} (h2 : Two I n) {out : List Nat} (h : Rounds I n n out) : out = (List.range n).map (lbl I) := by
  have hF := rounds_fits h2 h
  refine fits_eq hF fun v hv => ?_
  rcases rounds_count h2 h (lbl I v) (Nat.lt_of_le_of_lt (lbl_le I v) hv) (lbl_idem I v) with hh | hh
  · exact hh v hv rfl
  · have := cnt_le (fun x => decide (lbl I x = lbl I v ∧ at_ out x = lbl I x)) n
    omega
theorem fixed_lbl {I : List (Int × Nat)} {n : Nat} (hlt : ∀ e u, (e, u) ∈ I → u < n) {out : List Nat} (hF : Fits I n out) (hj : ∀ u v, J I u v → at_ out u = at_ out v) : out = (List.range n).map (lbl I) := by
  refine fits_eq hF fun v hv => ?_
  have := lbl_two (I := I) (S := fun x => x < n ∧ at_ out x = at_ out v) (fun a b hab h => by
    obtain ⟨e, h1, h2⟩ := hab
    exact ⟨hlt e b h2, by rw [← h.2]; exact (hj a b ⟨e, h1, h2⟩).symm⟩) (v := v) ⟨hv, rfl⟩
  have h1 := hF.le _ this.1
  have h2 := hF.ge hv
  unfold Set_; omega
theorem mem_inc {legs : List Int} {forks : List (List Int)} {e : Int} {u : Nat} : (e, u) ∈ inc legs forks ↔ legs[u]? = some e ∨ (legs.length ≤ u ∧ ∃ f, forks[u - legs.length]? = some f ∧ e ∈ f) := by
  unfold inc
  rw [List.mem_append, List.mem_zipIdx_iff_getElem?, List.mem_flatMap]
  constructor
  · rintro (h | ⟨p, hp, he⟩)
    · exact .inl h
    · obtain ⟨e', he', hq⟩ := List.mem_map.1 he
      simp only [Prod.mk.injEq] at hq
      obtain ⟨rfl, rfl⟩ := hq
      obtain ⟨f, q⟩ := p
      have := List.mk_mem_zipIdx_iff_le_and_getElem?_sub.1 hp
      exact .inr ⟨this.1, f, this.2, he'⟩
  · rintro (h | ⟨h1, f, hf, he⟩)
    · exact .inl h
    · exact .inr ⟨(f, u), List.mk_mem_zipIdx_iff_le_and_getElem?_sub.2 ⟨h1, hf⟩, List.mem_map.2 ⟨e, he, rfl⟩⟩
theorem inc_lt {legs : List Int} {forks : List (List Int)} {e : Int} {u : Nat} (h : (e, u) ∈ inc legs forks) : u < legs.length + forks.length := by
  rcases mem_inc.1 h with h | ⟨h1, f, hf, _⟩
  · have := (List.getElem?_eq_some_iff.1 h).1; omega
  · have := (List.getElem?_eq_some_iff.1 hf).1; omega
def twiceB (legs : List Int) (forks : List (List Int)) : Bool := (inc legs forks).all fun p => decide (0 ≤ p.1 ∧ p.1 ≤ 1000) && (ends (inc legs forks) p.1).length == 2
noncomputable def rootedB (legs : List Int) (forks : List (List Int)) : Bool := (List.range (legs.length + forks.length)).all fun v => decide (lbl (inc legs forks) v < legs.length)
noncomputable def isWebB (legs : List Int) (forks : List (List Int)) : Bool := decide (legs.length + forks.length ≤ 8) && (forks.all fun f => f.length == 3) && twiceB legs forks && rootedB legs forks
theorem twice_two {legs : List Int} {forks : List (List Int)} (h : twiceB legs forks = true) : Two (inc legs forks) (legs.length + forks.length) := by
  refine ⟨fun e u he => ?_, fun e u he => inc_lt he⟩
  have := List.all_eq_true.1 h _ he
  simp only [Bool.and_eq_true, beq_iff_eq] at this
  exact this.2
end Go.Proofs.Ytmeggliapebkgaa.Web
end
section
namespace Go.Proofs.Ytmeggliapebkgaa.Web
open Go.RowKit Go.ChangeShapes Go.Proofs.Ytmeggliapebkgaa.Mem
set_option linter.unusedVariables false
set_option linter.unusedSimpArgs false
def keyL (e : Int) : Lit := .int .i64 e
def valD (l : List Nat) : DataW Unit := .slice (lits .i64 (ints l)) []
theorem ends_snoc (L : List (Int × Nat)) (e' e : Int) (u : Nat) : ends (L ++ [(e', u)]) e = if e' = e then ends L e ++ [u] else ends L e := by
  unfold ends
  rw [List.filter_append, List.map_append]
  by_cases h : e' = e
  · rw [if_pos h, List.filter_cons_of_pos (by simpa using h)]; rfl
  · rw [if_neg h, List.filter_cons_of_neg (by simpa using h)]; simp
theorem take_snocD {α : Type} (I : List α) (p : Nat) (d : α) (h : p < I.length) : I.take (p + 1) = I.take p ++ [I.getD p d] := by
  rw [List.take_succ_eq_append_getElem h, List.getD_eq_getElem?_getD, List.getElem?_eq_getElem h]; rfl
def GTo (I : List (Int × Nat)) : Nat → DataW Unit
  | 0 => .map []
  | p + 1 => (GTo I p).put (keyL (I.getD p (0, 0)).1) (valD (ends (I.take (p + 1)) (I.getD p (0, 0)).1))
theorem GTo_isMap (I : List (Int × Nat)) : ∀ p, Maps.IsMap (GTo I p)
  | 0 => Maps.isMap_empty
  | p + 1 => (GTo_isMap I p).put _ _
theorem key_ne {e e' : Int} (h : e ≠ e') : keyL e ≠ keyL e' := fun g => h (by unfold keyL at g; injection g)
theorem GTo_at (I : List (Int × Nat)) (e : Int) (z : DataW Unit) : ∀ p, p ≤ I.length → (GTo I p).atKey (keyL e) z = if ends (I.take p) e = [] then z else valD (ends (I.take p) e)
  | 0, _ => rfl
  | p + 1, hp => by
    have ih := GTo_at I e z p (by omega)
    rw [GTo]
    obtain ⟨⟨e', u⟩, hq⟩ : ∃ q, q = I.getD p (0, 0) := ⟨_, rfl⟩
    have ht := take_snocD I p (0, 0) (by omega)
    rw [← hq] at ht ⊢
    by_cases h : e' = e
    · subst h
      rw [Maps.atKey_put_same (GTo_isMap I p) (show WideAt.IsKeyLit (keyL e') from trivial), ht, ends_snoc, if_pos rfl, if_neg (by simp)]
    · rw [Maps.atKey_put_other (key_ne (Ne.symm h)), ih, ht, ends_snoc, if_neg h]
theorem GTo_has (I : List (Int × Nat)) (e : Int) : ∀ p, p ≤ I.length → Maps.has (GTo I p) (keyL e) = !(ends (I.take p) e).isEmpty
  | 0, _ => rfl
  | p + 1, hp => by
    have ih := GTo_has I e p (by omega)
    rw [GTo]
    obtain ⟨⟨e', u⟩, hq⟩ : ∃ q, q = I.getD p (0, 0) := ⟨_, rfl⟩
    have ht := take_snocD I p (0, 0) (by omega)
    rw [← hq] at ht ⊢
    by_cases h : e' = e
    · subst h
      rw [Maps.has_put_same (GTo_isMap I p) (show WideAt.IsKeyLit (keyL e') from trivial), ht, ends_snoc, if_pos rfl]; simp
    · rw [Maps.has_put_other (key_ne (Ne.symm h)), ih, ht, ends_snoc, if_neg h]
theorem lits_inj {l m : List Int} (h : (lits .i64 l : List (DataW Unit)) = lits .i64 m) : l = m := (List.map_inj_right (fun a b hab => by injection hab with hab; injection hab)).1 h
theorem GTo_zs {w : World} {base e0 : Nat} {v : Value} {zs : List Int} {I : List (Int × Nat)} {p : Nat} {e : Int} (hp : p ≤ I.length) (hoi : w.ownsInts base e0 .i64 v zs) (hat : (GTo I p).atKey (keyL e) .nil = rowDatum .i64 v zs) : zs = ints (ends (I.take p) e) := by
  rw [GTo_at I e .nil p hp] at hat
  by_cases h : ends (I.take p) e = []
  · rw [if_pos h] at hat
    rcases hoi.datum (H := Unit) with ⟨_, h0⟩ | h1
    · rw [h0, h]; rfl
    · rw [h1] at hat; cases hat
  · rw [if_neg h] at hat
    rcases hoi.datum (H := Unit) with ⟨h1, _⟩ | h1
    · rw [h1] at hat; cases hat
    · rw [h1] at hat
      unfold valD at hat
      injection hat with hat _
      exact (lits_inj hat).symm
theorem GTo_step {w : World} {base e0 : Nat} {v' : Value} {zs : List Int} {I : List (Int × Nat)} {p : Nat} {e : Int} {u : Nat} (hp : p < I.length) (hI : I.getD p (0, 0) = (e, u)) (hz : zs = ints (ends (I.take p) e)) (hoi : w.ownsInts base e0 .i64 v' (zs ++ [(u : Int)])) : GTo I (p + 1) = (GTo I p).put (keyL e) (rowDatum .i64 v' (zs ++ [(u : Int)])) := by
  rw [GTo, hI, hoi.datum_pos (by simp), take_snocD I p (0, 0) hp, hI]
  unfold valD
  rw [ends_snoc, if_pos rfl, ints_app, hz]; rfl
theorem inc_leg {legs : List Int} {forks : List (List Int)} {k : Nat} (h : k < legs.length) : (inc legs forks).getD k (0, 0) = (legs.getD k 0, k) := by
  unfold inc
  rw [List.getD_eq_getElem?_getD, List.getElem?_append_left (by simpa using h), List.getElem?_zipIdx, List.getElem?_eq_getElem h, List.getD_eq_getElem?_getD, List.getElem?_eq_getElem h]; simp
theorem flat3 : ∀ (F : List (List Int)) (s i k : Nat), (∀ f ∈ F, f.length = 3) → i < F.length → k < 3 → ((F.zipIdx s).flatMap fun p => p.1.map fun e => (e, p.2))[3 * i + k]? = some ((F.getD i []).getD k 0, s + i)
  | [], _, i, _, _, h, _ => absurd h (by simp)
  | f :: F, s, 0, k, h3, _, hk => by
    have hf := h3 f List.mem_cons_self
    rw [List.zipIdx_cons, List.flatMap_cons, List.getElem?_append_left (by simp; omega)]
    rw [List.getElem?_map, List.getElem?_eq_getElem (by simp; omega)]
    simp [List.getElem?_eq_getElem (show k < f.length from by omega)]
  | f :: F, s, i + 1, k, h3, hi, hk => by
    have hf := h3 f List.mem_cons_self
    rw [List.zipIdx_cons, List.flatMap_cons, List.getElem?_append_right (by simp; omega)]
    have := flat3 F (s + 1) i k (fun g hg => h3 g (List.mem_cons_of_mem _ hg)) (by simpa using hi) hk
    rw [show 3 * (i + 1) + k - (List.map (fun e => (e, (f, s).2)) (f, s).1).length = 3 * i + k from by simp; omega, this]
    simp; omega
theorem inc_fork {legs : List Int} {forks : List (List Int)} {i k : Nat} (h3 : ∀ f ∈ forks, f.length = 3) (hi : i < forks.length) (hk : k < 3) : (inc legs forks).getD (legs.length + 3 * i + k) (0, 0) = ((forks.getD i []).getD k 0, legs.length + i) := by
  unfold inc
  rw [List.getD_eq_getElem?_getD, List.getElem?_append_right (by simp; omega), show legs.length + 3 * i + k - legs.zipIdx.length = 3 * i + k from by simp; omega, flat3 forks legs.length i k h3 hi hk]; rfl
theorem inc_len {legs : List Int} {forks : List (List Int)} (h3 : ∀ f ∈ forks, f.length = 3) : (inc legs forks).length = legs.length + 3 * forks.length := by
  have : ∀ (F : List (List Int)) (s : Nat), (∀ f ∈ F, f.length = 3) → ((F.zipIdx s).flatMap fun p => p.1.map fun e => (e, p.2)).length = 3 * F.length := by
    intro F
    induction F with
    | nil => intro _ _; rfl
    | cons f F ih => intro s h; rw [List.zipIdx_cons, List.flatMap_cons, List.length_append, ih (s + 1) (fun g hg => h g (List.mem_cons_of_mem _ hg)), List.length_map, h f List.mem_cons_self, List.length_cons]; omega
  unfold inc
  rw [List.length_append, this forks legs.length h3, List.length_zipIdx]
theorem wf_at {I : List (Int × Nat)} (h : ∀ p ∈ I, (Lit.int .i64 p.1).wf = true) {p : Nat} (hp : p < I.length) : (Lit.int .i64 (I.getD p (0, 0)).1).wf = true := by
  refine h _ ?_
  rw [List.getD_eq_getElem?_getD, List.getElem?_eq_getElem hp]; exact List.getElem_mem _
end Go.Proofs.Ytmeggliapebkgaa.Web
end
section
namespace Go.Proofs.Ytmeggliapebkgaa.Web
set_option linter.unusedVariables false
set_option linter.unusedSimpArgs false
def roundC (I : List (Int × Nat)) (out : List Nat) : List Nat := (I.map fun p => p.1).foldl (relax I) out
def partsC (I : List (Int × Nat)) (n : Nat) : Nat → List Nat
  | 0 => List.range n
  | t + 1 => roundC I (partsC I n t)
theorem partsC_rounds (I : List (Int × Nat)) (n : Nat) : ∀ t, Rounds I n t (partsC I n t)
  | 0 => .zero
  | t + 1 => .succ (partsC_rounds I n t) ⟨_, fun e => by
      rw [List.mem_map]
      exact ⟨fun ⟨p, hp, he⟩ => ⟨p.2, by rw [← he]; exact hp⟩, fun ⟨u, hu⟩ => ⟨_, hu, rfl⟩⟩, rfl⟩
theorem partsC_lbl {I : List (Int × Nat)} {n : Nat} (h : Two I n) : partsC I n n = (List.range n).map (lbl I) := rounds_lbl h (partsC_rounds I n n)
def isWebC (legs : List Int) (forks : List (List Int)) : Bool := decide (legs.length + forks.length ≤ 8) && (forks.all fun f => f.length == 3) && twiceB legs forks && (partsC (inc legs forks) (legs.length + forks.length) (legs.length + forks.length)).all fun r => decide (r < legs.length)
theorem isWebC_eq (legs : List Int) (forks : List (List Int)) : isWebC legs forks = isWebB legs forks := by
  unfold isWebC isWebB
  cases ht : twiceB legs forks with
  | false => simp
  | true =>
    rw [partsC_lbl (twice_two ht), List.all_map]
    rfl
end Go.Proofs.Ytmeggliapebkgaa.Web
end
