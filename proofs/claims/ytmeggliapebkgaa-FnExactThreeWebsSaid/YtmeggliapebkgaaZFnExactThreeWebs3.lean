/- Words, walks and plain laws that the row of the law FnExactThreeWebs uses. -/
import Derived.Test.YtmeggliapebkgaaZFnExactThreeWebs2
import Derived.Deep.RegionLawGrows
import Derived.ArgAppend
import Derived.Maps.OwnRows
import Derived.Maps.OwnSet
import Derived.Maps.RangeWalk
section
namespace Go.Proofs.Ytmeggliapebkgaa.F
abbrev bqFgT_0 : Array Bool := #[false, false, false, false, false, false, false, false, false, false, false, false, false, false, false, false, false, false, false]
abbrev bqFgT_1 : Array Bool := #[true, false, false, false, false, false, false, false, false, false, false, false, false, false, false, false, false, false, false]
abbrev bqFgT_2 : Array Bool := #[true, true, false, false, false, false, false, false, false, false, false, false, false, false, false, false, false, false, false]
abbrev bqFgT_3 : Array Bool := #[true, true, true, false, false, false, false, false, false, false, false, false, false, false, false, false, false, false, false]
abbrev bqFgT_4 : Array Bool := #[true, true, true, false, true, false, false, false, false, false, false, false, false, false, false, false, false, false, false]
abbrev bqFgT_5 : Array Bool := #[true, true, true, false, true, true, false, false, false, false, false, false, false, false, false, false, false, false, false]
abbrev bqFgT_6 : Array Bool := #[true, true, true, false, true, true, true, false, false, false, false, false, false, false, false, false, false, false, false]
abbrev bqFgT_7 : Array Bool := #[true, true, true, true, true, true, true, false, false, false, false, false, false, false, false, false, false, false, false]
abbrev bqFgT_8 : Array Bool := #[true, true, true, true, true, true, true, true, false, false, false, false, false, false, false, false, false, false, false]
abbrev bqFgT_9 : Array Bool := #[true, true, true, true, true, true, true, true, true, false, false, false, false, false, false, false, false, false, false]
abbrev bqFgT_10 : Array Bool := #[true, true, true, true, true, true, true, true, true, true, false, false, false, false, false, false, false, false, false]
abbrev bqFgT_11 : Array Bool := #[true, true, true, true, true, true, true, true, true, true, true, false, false, false, false, false, false, false, false]
abbrev bqFgT_12 : Array Bool := #[true, true, true, true, true, true, true, true, true, true, true, true, false, false, false, false, false, false, false]
abbrev bqFgT_13 : Array Bool := #[true, true, true, true, true, true, true, true, true, true, true, true, true, false, false, false, false, false, false]
abbrev bqFgT_14 : Array Bool := #[true, true, true, true, true, true, true, true, true, true, true, true, true, true, false, false, false, false, false]
abbrev bqFgT_15 : Array Bool := #[true, true, true, true, true, true, true, true, true, true, true, true, true, true, true, false, false, false, false]
abbrev bqFgT_16 : Array Bool := #[true, true, true, true, true, true, true, true, true, true, true, true, true, true, true, true, false, false, false]
abbrev bqFgT_17 : Array Bool := #[true, true, true, true, true, true, true, true, true, true, true, true, true, true, true, true, true, false, false]
abbrev bqFgT_18 : Array Bool := #[true, true, true, true, true, true, true, true, true, true, true, true, true, true, true, true, true, true, false]
abbrev bqFgT_19 : Array Bool := #[true, true, true, true, true, true, true, true, true, true, true, true, true, true, true, true, true, true, true]
abbrev bqFgT_20 : Array Bool := #[true, true, true, true, true, true, true, true, true, true, false, true, false, false, false, false, false, false, false]
abbrev bqFgT_21 : Array Bool := #[true, true, true, true, true, true, true, true, true, true, false, true, false, false, true, false, false, false, false]
abbrev bqFgT_22 : Array Bool := #[true, true, true, true, true, true, true, true, true, true, true, true, false, false, true, false, false, false, false]
abbrev bqFgT_23 : Array Bool := #[true, true, true, true, true, true, true, true, true, true, true, true, false, true, true, false, false, false, false]
abbrev bqFgT_24 : Array Bool := #[false, false, false, false, false, false, false, false, false, false]
abbrev bqFgT_25 : Array Bool := #[true, false, false, false, false, false, false, false, false, false]
abbrev bqFgT_26 : Array Bool := #[true, true, false, false, false, false, false, false, false, false]
abbrev bqFgT_27 : Array Bool := #[true, true, true, false, false, false, false, false, false, false]
abbrev bqFgT_28 : Array Bool := #[true, true, true, false, true, false, false, false, false, false]
abbrev bqFgT_29 : Array Bool := #[true, true, true, false, true, true, false, false, false, false]
abbrev bqFgT_30 : Array Bool := #[true, true, true, false, true, true, true, false, false, false]
abbrev bqFgT_31 : Array Bool := #[true, true, true, true, true, true, true, false, false, false]
abbrev bqFgT_32 : Array Bool := #[true, true, true, true, true, true, true, true, false, false]
abbrev bqFgT_33 : Array Bool := #[true, true, true, true, true, true, true, true, true, false]
abbrev bqFgT_34 : Array Bool := #[true, true, true, true, true, true, true, true, true, true]
section
open Go.RowKit Go.Proofs.YtmeggliapebkgaaW.PrintWords Go.Proofs.YtmeggliapebkgaaW.PrintLast Go.Proofs.YtmeggliapebkgaaW.PrintMore
attribute [local go_sem] max2_int min2_int max_two min_two max_three min_three max_four min_four   
set_option linter.unusedVariables false
set_option linter.unusedSimpArgs false
mutual
def spec_l06Twice.l0 : Nat → List Int → Int → List Int → List (List Int) → Option (Bool)
 | 0, _, _, _, _ => none
 | k + 1, x3, x4, x981002000, x981002001 => if x4 < (x981002001.length : Int) then (if 0 ≤ x4 then (if ((rd_L1 x981002001 x4).length : Int) = 3 then (if x3.length + (rd_L1 x981002001 x4).length < 17592186044416 then (spec_l06Twice.l0 k (x3 ++ (rd_L1 x981002001 x4)) (wrap64 (x4 + 1)) x981002000 x981002001) else (none)) else (some false)) else (none)) else (spec_l06Twice.l1 k x3 0)
def spec_l06Twice.l1 : Nat → List Int → Int → Option (Bool)
 | 0, _, _ => none
 | k + 1, x3, x5 => if x5 < (x3.length : Int) then (spec_l06Twice.l2 k x3 x5 0 0) else (some true)
def spec_l06Twice.l2 : Nat → List Int → Int → Int → Int → Option (Bool)
 | 0, _, _, _, _ => none
 | k + 1, x3, x5, x6, x7 => if x7 < (x3.length : Int) then (if 0 ≤ x7 then (if 0 ≤ x5 then (if x5 < (x3.length : Int) then (if (rd x3 x7) = (rd x3 x5) then (spec_l06Twice.l2 k x3 x5 (wrap64 (x6 + 1)) (wrap64 (x7 + 1))) else (spec_l06Twice.l2 k x3 x5 x6 (wrap64 (x7 + 1)))) else (none)) else (none)) else (none)) else (if x6 = 2 then (if 0 ≤ x5 then (if x5 < (x3.length : Int) then ((spec_l01In.f (rd x3 x5) 0 1000).bind fun t981013 => (if t981013 = true then (spec_l06Twice.l1 k x3 (wrap64 (x5 + 1))) else (some false))) else (none)) else (none)) else (some false))
end
def spec_l06Twice.f (k : Nat) (l0_0 : List Int) (l0_1 : List (List Int)) : Option (Bool) := (spec_l01Own.f l0_0).bind fun t981002 => (spec_l06Twice.l0 k t981002 0 l0_0 l0_1)
theorem spec_l06Twice.mono_l : ∀ k, (∀ y0 y1 y2 y3, LeO (spec_l06Twice.l0 k y0 y1 y2 y3) (spec_l06Twice.l0 (k + 1) y0 y1 y2 y3)) ∧ (∀ y0 y1, LeO (spec_l06Twice.l1 k y0 y1) (spec_l06Twice.l1 (k + 1) y0 y1)) ∧ (∀ y0 y1 y2 y3, LeO (spec_l06Twice.l2 k y0 y1 y2 y3) (spec_l06Twice.l2 (k + 1) y0 y1 y2 y3))
 | 0 => ⟨fun _ _ _ _ r h => by simp [spec_l06Twice.l0] at h, fun _ _ r h => by simp [spec_l06Twice.l1] at h, fun _ _ _ _ r h => by simp [spec_l06Twice.l2] at h⟩
 | k + 1 => by
  obtain ⟨ih0, ih1, ih2⟩ := spec_l06Twice.mono_l k
  refine ⟨?_, ?_, ?_⟩
  ·intro y0 y1 y2 y3
   unfold spec_l06Twice.l0
   repeat' first
   | (with_reducible exact ih0 _ _ _ _)
   | (with_reducible exact ih1 _ _)
   | (with_reducible exact ih2 _ _ _ _)
   | (with_reducible exact LeO.refl _)
   | (with_reducible exact LeO.none _)
   | (with_reducible refine LeO.ite ?_ ?_)
   | (with_reducible refine LeO.bind ?_ (fun _ => ?_))
   | exact ih0 _ _ _ _
   | exact ih1 _ _
   | exact ih2 _ _ _ _
   | exact LeO.none _
   | refine LeO.ite ?_ ?_
   | refine LeO.bind ?_ (fun _ => ?_)
  ·intro y0 y1
   unfold spec_l06Twice.l1
   repeat' first
   | (with_reducible exact ih0 _ _ _ _)
   | (with_reducible exact ih1 _ _)
   | (with_reducible exact ih2 _ _ _ _)
   | (with_reducible exact LeO.refl _)
   | (with_reducible exact LeO.none _)
   | (with_reducible refine LeO.ite ?_ ?_)
   | (with_reducible refine LeO.bind ?_ (fun _ => ?_))
   | exact ih0 _ _ _ _
   | exact ih1 _ _
   | exact ih2 _ _ _ _
   | exact LeO.none _
   | refine LeO.ite ?_ ?_
   | refine LeO.bind ?_ (fun _ => ?_)
  ·intro y0 y1 y2 y3
   unfold spec_l06Twice.l2
   repeat' first
   | (with_reducible exact ih0 _ _ _ _)
   | (with_reducible exact ih1 _ _)
   | (with_reducible exact ih2 _ _ _ _)
   | (with_reducible exact LeO.refl _)
   | (with_reducible exact LeO.none _)
   | (with_reducible refine LeO.ite ?_ ?_)
   | (with_reducible refine LeO.bind ?_ (fun _ => ?_))
   | exact ih0 _ _ _ _
   | exact ih1 _ _
   | exact ih2 _ _ _ _
   | exact LeO.none _
   | refine LeO.ite ?_ ?_
   | refine LeO.bind ?_ (fun _ => ?_)
theorem spec_l06Twice.mono : ∀ a0 a1 k, LeO (spec_l06Twice.f k a0 a1) (spec_l06Twice.f (k + 1) a0 a1) := by
 intro a0 a1 k
 obtain ⟨ih0, ih1, ih2⟩ := spec_l06Twice.mono_l k
 unfold spec_l06Twice.f
 repeat' first
   | (with_reducible exact ih0 _ _ _ _)
   | (with_reducible exact ih1 _ _)
   | (with_reducible exact ih2 _ _ _ _)
   | (with_reducible exact LeO.refl _)
   | (with_reducible exact LeO.none _)
   | (with_reducible refine LeO.ite ?_ ?_)
   | (with_reducible refine LeO.bind ?_ (fun _ => ?_))
   | exact ih0 _ _ _ _
   | exact ih1 _ _
   | exact ih2 _ _ _ _
   | exact LeO.none _
   | refine LeO.ite ?_ ?_
   | refine LeO.bind ?_ (fun _ => ?_)
set_option maxHeartbeats 8000000 in
set_option maxRecDepth 100000 in
theorem spec_l06Twice.calls (k : Nat) (A0_0 : Option Addr) (c0_0 : Nat) (l0_0 : List Int) (A0_1 : Option Addr) (c0_1 : Nat) (l0_1 : List (List Int)) (r : Bool) (w : World) (hr0_0 : Kd.C (Kd.int .i64) w A0_0 l0_0.length l0_0) (hc0_0 : l0_0.length ≤ c0_0) (hr0_1 : Kd.C (Kd.slice 2 (Kd.int .i64)) w A0_1 l0_1.length l0_1) (hc0_1 : l0_1.length ≤ c0_1) (h : spec_l06Twice.f k l0_0 l0_1 = some r) :
  Calls Try.prog 98 #[.agg #[.slice A0_0 l0_0.length c0_0, .slice A0_1 l0_1.length c0_1]] w fun e w' => e = .returned (.bool r) ∧ Below w.heap.size w w' := by
 have hu30 := Try.underlying30
 have HR0_0 := Aside0.mk hr0_0
 have HC0_0 := Aside0.mk hc0_0
 clear hr0_0 hc0_0
 have HR0_1 := Aside0.mk hr0_1
 have HC0_1 := Aside0.mk hc0_1
 clear hr0_1 hc0_1
 have HB := Aside0.mk (Below.refl w.heap.size w)
 have H : ((spec_l01Own.f l0_0).bind fun t981002 => (spec_l06Twice.l0 k t981002 0 l0_0 l0_1)) = some r := h
 clear h
 replace H := Option.bind_eq_some_iff.mp H
 obtain ⟨t981002, A20, H⟩ := H
 replace H : (spec_l06Twice.l0 k t981002 0 l0_0 l0_1) = some r := H
 have A2 := Aside0.mk A20
 clear A20
 have H' := Aside0.mk H
 clear H
 go_enter Try.func98, Try.ntmps98
 go_wp2_with (first | ((with_reducible refine gate_dst (N := 1) rfl ?_); refine box_event ?hg (N := 1) ?hd (cs := #[.slice A0_0 l0_0.length c0_0, .slice A0_1 l0_1.length c0_1]) (t := 30) ?hr ?_; (case hd => rfl); (case hg => rfl); (case hr => first | (go_simp; done) | (go_simp; rfl)); intro gb981001 hg w3 hbox hb; have n0_ := Aside0.mk (below_step (by repeat (first | (with_reducible first | exact HB.out | apply below_alloc | apply pw_below_drewN | apply below_drew1) | exact HB.out)) hb); have n1_ := Aside0.mk (hbox); have n2_ := Aside0.mk ((by rw [hg]; exact (below_size (by repeat (first | (with_reducible first | exact HB.out | apply below_alloc | apply pw_below_drewN | apply below_drew1) | exact HB.out))) : w.heap.size ≤ gb981001)); have n3_ := Aside0.mk ((by rw [hg]; exact (below_size (by repeat (first | (with_reducible first | exact HB.out | apply below_alloc | apply pw_below_drewN | apply below_drew1) | exact HB.out))) : w.heap.size ≤ gb981001)); clear HB; have HB := n0_; have BK981001 := n1_; have GW981001 := n2_; have GE981001 := n3_; clear n0_ n1_ n2_ n3_; clear hb hbox hg; have hcz4_0 : w3.cell? ⟨gb981001, 0, none⟩ = some (.slice A0_0 l0_0.length c0_0) := (blk_cell BK981001.out 0).trans rfl; have hcz4_1 : w3.cell? ⟨gb981001, 1, none⟩ = some (.slice A0_1 l0_1.length c0_1) := (blk_cell BK981001.out 1).trans rfl; have hfz4_0 := blk_frozen BK981001.out 0; have hfz4_1 := blk_frozen BK981001.out 1) | (go_at_call 100; (with_reducible refine (spec_l01Own.calls _ _ l0_0 t981002 _ ?side1 ?side2 A2.out).mono ?_); (case side1 => repeat (first | exact (Kd.C_below HR0_0.out HB.out) | (with_reducible refine Kd.C_alloc ?_ _) | (with_reducible refine Kd.C_drewN ?_ _) | (with_reducible refine Kd.C_drew ?_))); (case side2 => exact HC0_0.out); rintro e w5 ⟨v981003, rfl, ho0, hb⟩; have n0_ := Aside0.mk (Kd.R_lower ho0 (below_size (by repeat (first | (with_reducible first | exact HB.out | apply below_alloc | apply pw_below_drewN | apply below_drew1 | refine below_set ?_ GE981001.out) | exact HB.out)))); have n1_ := Aside0.mk (blk_below (g := gb981001) (o := .cells #[.slice A0_0 l0_0.length c0_0, .slice A0_1 l0_1.length c0_1] 30 (0, 0)) (by (with_reducible repeat (first | refine blk_drewN ?_ _ | refine blk_drew ?_ | refine blk_alloc ?_ _)); exact BK981001.out) hb); have n2_ := Aside0.mk (below_step (by repeat (first | (with_reducible first | exact HB.out | apply below_alloc | apply pw_below_drewN | apply below_drew1 | refine below_set ?_ GE981001.out) | exact HB.out)) hb); clear BK981001; clear HB; have HO981004 := n0_; have BK981001 := n1_; have HB := n2_; clear n0_ n1_ n2_; (try clear hb); (try clear hb2); (try clear hk); (try clear hi); (try clear ho0)))
 repeat (go_quiet (first | ((with_reducible refine gate_dst (N := 1) rfl ?_); refine box_event ?hg (N := 1) ?hd (cs := #[.slice A0_0 l0_0.length c0_0, .slice A0_1 l0_1.length c0_1]) (t := 30) ?hr ?_; (case hd => rfl); (case hg => rfl); (case hr => first | (go_simp; done) | (go_simp; rfl)); intro gb981001 hg w3 hbox hb; have n0_ := Aside0.mk (below_step (by repeat (first | (with_reducible first | exact HB.out | apply below_alloc | apply pw_below_drewN | apply below_drew1) | exact HB.out)) hb); have n1_ := Aside0.mk (hbox); have n2_ := Aside0.mk ((by rw [hg]; exact (below_size (by repeat (first | (with_reducible first | exact HB.out | apply below_alloc | apply pw_below_drewN | apply below_drew1) | exact HB.out))) : w.heap.size ≤ gb981001)); have n3_ := Aside0.mk ((by rw [hg]; exact (below_size (by repeat (first | (with_reducible first | exact HB.out | apply below_alloc | apply pw_below_drewN | apply below_drew1) | exact HB.out))) : w.heap.size ≤ gb981001)); clear HB; have HB := n0_; have BK981001 := n1_; have GW981001 := n2_; have GE981001 := n3_; clear n0_ n1_ n2_ n3_; clear hb hbox hg; have hcz4_0 : w3.cell? ⟨gb981001, 0, none⟩ = some (.slice A0_0 l0_0.length c0_0) := (blk_cell BK981001.out 0).trans rfl; have hcz4_1 : w3.cell? ⟨gb981001, 1, none⟩ = some (.slice A0_1 l0_1.length c0_1) := (blk_cell BK981001.out 1).trans rfl; have hfz4_0 := blk_frozen BK981001.out 0; have hfz4_1 := blk_frozen BK981001.out 1) | (go_at_call 100; (with_reducible refine (spec_l01Own.calls _ _ l0_0 t981002 _ ?side1 ?side2 A2.out).mono ?_); (case side1 => repeat (first | exact (Kd.C_below HR0_0.out HB.out) | (with_reducible refine Kd.C_alloc ?_ _) | (with_reducible refine Kd.C_drewN ?_ _) | (with_reducible refine Kd.C_drew ?_))); (case side2 => exact HC0_0.out); rintro e w5 ⟨v981003, rfl, ho0, hb⟩; have n0_ := Aside0.mk (Kd.R_lower ho0 (below_size (by repeat (first | (with_reducible first | exact HB.out | apply below_alloc | apply pw_below_drewN | apply below_drew1 | refine below_set ?_ GE981001.out) | exact HB.out)))); have n1_ := Aside0.mk (blk_below (g := gb981001) (o := .cells #[.slice A0_0 l0_0.length c0_0, .slice A0_1 l0_1.length c0_1] 30 (0, 0)) (by (with_reducible repeat (first | refine blk_drewN ?_ _ | refine blk_drew ?_ | refine blk_alloc ?_ _)); exact BK981001.out) hb); have n2_ := Aside0.mk (below_step (by repeat (first | (with_reducible first | exact HB.out | apply below_alloc | apply pw_below_drewN | apply below_drew1 | refine below_set ?_ GE981001.out) | exact HB.out)) hb); clear BK981001; clear HB; have HO981004 := n0_; have BK981001 := n1_; have HB := n2_; clear n0_ n1_ n2_; (try clear hb); (try clear hb2); (try clear hk); (try clear hi); (try clear ho0))); try go_wp2_with (first | ((with_reducible refine gate_dst (N := 1) rfl ?_); refine box_event ?hg (N := 1) ?hd (cs := #[.slice A0_0 l0_0.length c0_0, .slice A0_1 l0_1.length c0_1]) (t := 30) ?hr ?_; (case hd => rfl); (case hg => rfl); (case hr => first | (go_simp; done) | (go_simp; rfl)); intro gb981001 hg w3 hbox hb; have n0_ := Aside0.mk (below_step (by repeat (first | (with_reducible first | exact HB.out | apply below_alloc | apply pw_below_drewN | apply below_drew1) | exact HB.out)) hb); have n1_ := Aside0.mk (hbox); have n2_ := Aside0.mk ((by rw [hg]; exact (below_size (by repeat (first | (with_reducible first | exact HB.out | apply below_alloc | apply pw_below_drewN | apply below_drew1) | exact HB.out))) : w.heap.size ≤ gb981001)); have n3_ := Aside0.mk ((by rw [hg]; exact (below_size (by repeat (first | (with_reducible first | exact HB.out | apply below_alloc | apply pw_below_drewN | apply below_drew1) | exact HB.out))) : w.heap.size ≤ gb981001)); clear HB; have HB := n0_; have BK981001 := n1_; have GW981001 := n2_; have GE981001 := n3_; clear n0_ n1_ n2_ n3_; clear hb hbox hg; have hcz4_0 : w3.cell? ⟨gb981001, 0, none⟩ = some (.slice A0_0 l0_0.length c0_0) := (blk_cell BK981001.out 0).trans rfl; have hcz4_1 : w3.cell? ⟨gb981001, 1, none⟩ = some (.slice A0_1 l0_1.length c0_1) := (blk_cell BK981001.out 1).trans rfl; have hfz4_0 := blk_frozen BK981001.out 0; have hfz4_1 := blk_frozen BK981001.out 1) | (go_at_call 100; (with_reducible refine (spec_l01Own.calls _ _ l0_0 t981002 _ ?side1 ?side2 A2.out).mono ?_); (case side1 => repeat (first | exact (Kd.C_below HR0_0.out HB.out) | (with_reducible refine Kd.C_alloc ?_ _) | (with_reducible refine Kd.C_drewN ?_ _) | (with_reducible refine Kd.C_drew ?_))); (case side2 => exact HC0_0.out); rintro e w5 ⟨v981003, rfl, ho0, hb⟩; have n0_ := Aside0.mk (Kd.R_lower ho0 (below_size (by repeat (first | (with_reducible first | exact HB.out | apply below_alloc | apply pw_below_drewN | apply below_drew1 | refine below_set ?_ GE981001.out) | exact HB.out)))); have n1_ := Aside0.mk (blk_below (g := gb981001) (o := .cells #[.slice A0_0 l0_0.length c0_0, .slice A0_1 l0_1.length c0_1] 30 (0, 0)) (by (with_reducible repeat (first | refine blk_drewN ?_ _ | refine blk_drew ?_ | refine blk_alloc ?_ _)); exact BK981001.out) hb); have n2_ := Aside0.mk (below_step (by repeat (first | (with_reducible first | exact HB.out | apply below_alloc | apply pw_below_drewN | apply below_drew1 | refine below_set ?_ GE981001.out) | exact HB.out)) hb); clear BK981001; clear HB; have HO981004 := n0_; have BK981001 := n1_; have HB := n2_; clear n0_ n1_ n2_; (try clear hb); (try clear hb2); (try clear hk); (try clear hi); (try clear ho0))))
 go_loopg [3, 4] k (fun kq v3 v4 w' => ∃ (x3_1 : List Int) (x4_1 : Int), v4 = .int .i64 x4_1 ∧ Aside0 (spec_l06Twice.l0 kq x3_1 x4_1 l0_0 l0_1 = some r) ∧ Aside0 (kq ≤ k) ∧ Aside0 (Kd.R (Kd.int .i64) 2 w' w.heap.size (fun _ => True) v3 x3_1) ∧ Aside0 (w'.heap[gb981001]? = some (.cells #[(.slice A0_0 l0_0.length c0_0), (.slice A0_1 l0_1.length c0_1)] 30 (0, 0))) ∧ Aside0 (Below w.heap.size w w'))
 case atStart => exact ⟨(t981002), (0), (by first | rfl | (simp; done) | (simp [*]; done)), H', ⟨Nat.le_refl _⟩, ⟨by (with_reducible repeat (first | apply Kd.R_alloc | apply Kd.R_drewN | apply Kd.R_drew)); exact HO981004.out⟩, ⟨by (with_reducible repeat (first | refine blk_drewN ?_ _ | refine blk_drew ?_ | refine blk_alloc ?_ _)); exact BK981001.out⟩, ⟨by repeat (first | (with_reducible first | exact HB.out | apply below_alloc | apply pw_below_drewN | apply below_drew1 | refine below_set ?_ GE981001.out) | exact HB.out)⟩⟩
 case round =>
  clear H'
  try clear p2
  try clear hcz4_0
  try clear hcz4_1
  try clear hfz4_0
  try clear hfz4_1
  obtain ⟨x3_1, x4_1, rfl, HA, HK1, HO_3, BK981001, HB⟩ := hrel
  cases gk with
  | zero => exact absurd HA.out (by simp [spec_l06Twice.l0])
  | succ k1 =>
   have H := HA.out
   clear HA
   simp only [spec_l06Twice.l0] at H
   by_cases c6 : x4_1 < (l0_1.length : Int)
   ·rw [if_pos c6] at H
    have c6b0 : decide (x4_1 < (l0_1.length : Int)) = true := decide_eq_true c6
    clear c6
    by_cases c7 : 0 ≤ x4_1
    rotate_left
    ·rw [if_neg c7] at H
     exact absurd H (by simp)
    rw [if_pos c7] at H
    have c7b0 : decide (0 ≤ x4_1) = true := decide_eq_true c7
    clear c7
    by_cases c8 : ((rd_L1 l0_1 x4_1).length : Int) = 3
    rotate_left
    ·rw [if_neg c8] at H
     have c8b0 : (((rd_L1 l0_1 x4_1).length : Int) == 3) = false := beq_eq_false_iff_ne.mpr c8
     have c8b1 : (((rd_L1 l0_1 x4_1).length : Int) != 3) = true := bne_iff_ne.mpr c8
     obtain rfl := Option.some.inj H
     have hcz12_0 : wr.cell? ⟨gb981001, 0, none⟩ = some (.slice A0_0 l0_0.length c0_0) := (blk_cell BK981001.out 0).trans rfl
     have hcz12_1 : wr.cell? ⟨gb981001, 1, none⟩ = some (.slice A0_1 l0_1.length c0_1) := (blk_cell BK981001.out 1).trans rfl
     have hfz12_0 := blk_frozen BK981001.out 0
     have hfz12_1 := blk_frozen BK981001.out 1
     have p981005 : 0 ≤ (x4_1 : Int) := of_decide_eq_true (by first | (with_reducible assumption) | assumption)
     have q981005 : x4_1 < (l0_1.length : Int) := of_decide_eq_true (by first | (with_reducible assumption) | assumption)
     obtain ⟨ad981005, A981005_0, c981005_0, e981005, hx981005_0, hl981005_0, hi981005_0⟩ := at_L1 HR0_1.out x4_1 p981005 q981005
     cases e981005
     replace hx981005_0 := (HB.out.cell (World.block_lt_of_cell? w _ hx981005_0)).trans hx981005_0
     have HR981005_0 := Aside0.mk hi981005_0
     have HC981005_0 := Aside0.mk hl981005_0
     clear hi981005_0 hl981005_0
     replace p981005 := eq_true p981005
     replace q981005 := eq_true q981005
     go_wp2
     repeat (go_quiet (fail); try go_wp2)
     go_ret
     exact ⟨by first | rfl | (simp [errW_none, errW_some] <;> rfl) | (simp [*, errW_none, errW_some] <;> rfl), by repeat (first | (with_reducible first | exact HB.out | apply below_alloc | apply pw_below_drewN | apply below_drew1 | refine below_set ?_ GE981001.out) | exact HB.out)⟩
    rw [if_pos c8] at H
    have c8b0 : (((rd_L1 l0_1 x4_1).length : Int) == 3) = true := beq_iff_eq.mpr c8
    have c8b1 : (((rd_L1 l0_1 x4_1).length : Int) != 3) = false := bne_eq_false_iff_eq.mpr c8
    clear c8
    by_cases c9 : x3_1.length + (rd_L1 l0_1 x4_1).length < 17592186044416
    rotate_left
    ·rw [if_neg c9] at H
     exact absurd H (by simp)
    rw [if_pos c9] at H
    have LMc9 := Aside0.mk c9
    clear c9
    obtain ⟨y981007, hy981007⟩ : ∃ y_ : List Int, y_ = (x3_1 ++ (rd_L1 l0_1 x4_1)) := ⟨_, rfl⟩
    replace H : (spec_l06Twice.l0 k1 y981007 (wrap64 (x4_1 + 1)) l0_0 l0_1) = some r := by first | (rw [hy981007]; with_reducible exact H) | (have H2_ := (Option.bind_some _ _).symm.trans H; rw [hy981007]; with_reducible exact H2_) | (have H2_ := (Option.bind_some _ _).symm.trans H; with_reducible exact H2_) | with_reducible exact H | (rw [hy981007]; exact H) | exact H
    have Ny981007 := Aside0.mk hy981007
    clear hy981007
    have H' := Aside0.mk H
    clear H
    have hcz10_0 : wr.cell? ⟨gb981001, 0, none⟩ = some (.slice A0_0 l0_0.length c0_0) := (blk_cell BK981001.out 0).trans rfl
    have hcz10_1 : wr.cell? ⟨gb981001, 1, none⟩ = some (.slice A0_1 l0_1.length c0_1) := (blk_cell BK981001.out 1).trans rfl
    have hfz10_0 := blk_frozen BK981001.out 0
    have hfz10_1 := blk_frozen BK981001.out 1
    have p981005 : 0 ≤ (x4_1 : Int) := of_decide_eq_true (by first | (with_reducible assumption) | assumption)
    have q981005 : x4_1 < (l0_1.length : Int) := of_decide_eq_true (by first | (with_reducible assumption) | assumption)
    obtain ⟨ad981005, A981005_0, c981005_0, e981005, hx981005_0, hl981005_0, hi981005_0⟩ := at_L1 HR0_1.out x4_1 p981005 q981005
    cases e981005
    replace hx981005_0 := (HB.out.cell (World.block_lt_of_cell? w _ hx981005_0)).trans hx981005_0
    have HR981005_0 := Aside0.mk hi981005_0
    have HC981005_0 := Aside0.mk hl981005_0
    clear hi981005_0 hl981005_0
    replace p981005 := eq_true p981005
    replace q981005 := eq_true q981005
    have p981006 : 0 ≤ (x4_1 : Int) := of_decide_eq_true (by first | (with_reducible assumption) | assumption)
    have q981006 : x4_1 < (l0_1.length : Int) := of_decide_eq_true (by first | (with_reducible assumption) | assumption)
    obtain ⟨ad981006, A981006_0, c981006_0, e981006, hx981006_0, hl981006_0, hi981006_0⟩ := at_L1 HR0_1.out x4_1 p981006 q981006
    obtain rfl : ad981005 = ad981006 := (by injection e981006)
    replace hx981006_0 := (HB.out.cell (World.block_lt_of_cell? w _ hx981006_0)).trans hx981006_0
    have HR981006_0 := Aside0.mk hi981006_0
    have HC981006_0 := Aside0.mk hl981006_0
    clear hi981006_0 hl981006_0
    replace p981006 := eq_true p981006
    replace q981006 := eq_true q981006
    have ea_ := Option.some.inj (hx981005_0.symm.trans hx981006_0)
    injection ea_ with ea_ en_ ec_
    subst ea_
    subst ec_
    clear en_
    go_wp2_with (first | ((with_reducible refine gate_builtin (b := .append) (xs := #[.tmp 25, .tmp 30]) rfl ?_); at_builtin; refine Kd.R_append_rows (Kd.int .i64) (w0 := w) w.heap.size rfl (.tmp 25) (.tmp 30) 22 2 (.int .i64 0) 8 rfl Try.underlying22 info2 rfl (by decide) (by omega) u3 x3_1 (rd_L1 l0_1 x4_1) _ _ _ (fun _ => True) (fun _ => False) rfl rfl ?aO ?aR (fun _ _ h => h) (fun _ h => h.elim) ?aF ?aB ?aS ?aL ?_; (case aR => repeat (first | exact (Kd.C_below HR981006_0.out HB.out) | (with_reducible refine Kd.C_alloc ?_ _) | (with_reducible refine Kd.C_drewN ?_ _) | (with_reducible refine Kd.C_drew ?_))); (case aB => exact (by repeat (first | (with_reducible first | exact HB.out | apply below_alloc | apply pw_below_drewN | apply below_drew1 | refine below_set ?_ GE981001.out) | exact HB.out))); (case aF => exact (fun _ _ => trivial)); (case aO => exact (by (with_reducible repeat (first | apply Kd.R_alloc | apply Kd.R_drewN | apply Kd.R_drew)); exact HO_3.out)); (case aS => exact (below_size (by repeat (first | (with_reducible first | exact HB.out | apply below_alloc | apply pw_below_drewN | apply below_drew1 | refine below_set ?_ GE981001.out) | exact HB.out)))); (case aL => have := LMc9.out; omega); intro v981008 w11 ho hb hg hat; rw [← Ny981007.out] at ho; have n0_ := Aside0.mk (blk_grown (g := gb981001) (o := .cells #[.slice A0_0 l0_0.length c0_0, .slice (some ad981005) l0_1.length c0_1] 30 (0, 0)) (by (with_reducible repeat (first | refine blk_drewN ?_ _ | refine blk_drew ?_ | refine blk_alloc ?_ _)); exact BK981001.out) hg (Kd.R_ne HO_3.out BK981001.out (by decide))); have n1_ := Aside0.mk (hb); have n2_ := Aside0.mk (ho); clear BK981001; clear HB; clear HO_3; have BK981001 := n0_; have HB := n1_; have HO981009 := n2_; clear n0_ n1_ n2_; clear ho hb hg hat))
    repeat (go_quiet (first | ((with_reducible refine gate_builtin (b := .append) (xs := #[.tmp 25, .tmp 30]) rfl ?_); at_builtin; refine Kd.R_append_rows (Kd.int .i64) (w0 := w) w.heap.size rfl (.tmp 25) (.tmp 30) 22 2 (.int .i64 0) 8 rfl Try.underlying22 info2 rfl (by decide) (by omega) u3 x3_1 (rd_L1 l0_1 x4_1) _ _ _ (fun _ => True) (fun _ => False) rfl rfl ?aO ?aR (fun _ _ h => h) (fun _ h => h.elim) ?aF ?aB ?aS ?aL ?_; (case aR => repeat (first | exact (Kd.C_below HR981006_0.out HB.out) | (with_reducible refine Kd.C_alloc ?_ _) | (with_reducible refine Kd.C_drewN ?_ _) | (with_reducible refine Kd.C_drew ?_))); (case aB => exact (by repeat (first | (with_reducible first | exact HB.out | apply below_alloc | apply pw_below_drewN | apply below_drew1 | refine below_set ?_ GE981001.out) | exact HB.out))); (case aF => exact (fun _ _ => trivial)); (case aO => exact (by (with_reducible repeat (first | apply Kd.R_alloc | apply Kd.R_drewN | apply Kd.R_drew)); exact HO_3.out)); (case aS => exact (below_size (by repeat (first | (with_reducible first | exact HB.out | apply below_alloc | apply pw_below_drewN | apply below_drew1 | refine below_set ?_ GE981001.out) | exact HB.out)))); (case aL => have := LMc9.out; omega); intro v981008 w11 ho hb hg hat; rw [← Ny981007.out] at ho; have n0_ := Aside0.mk (blk_grown (g := gb981001) (o := .cells #[.slice A0_0 l0_0.length c0_0, .slice (some ad981005) l0_1.length c0_1] 30 (0, 0)) (by (with_reducible repeat (first | refine blk_drewN ?_ _ | refine blk_drew ?_ | refine blk_alloc ?_ _)); exact BK981001.out) hg (Kd.R_ne HO_3.out BK981001.out (by decide))); have n1_ := Aside0.mk (hb); have n2_ := Aside0.mk (ho); clear BK981001; clear HB; clear HO_3; have BK981001 := n0_; have HB := n1_; have HO981009 := n2_; clear n0_ n1_ n2_; clear ho hb hg hat)); try go_wp2_with (first | ((with_reducible refine gate_builtin (b := .append) (xs := #[.tmp 25, .tmp 30]) rfl ?_); at_builtin; refine Kd.R_append_rows (Kd.int .i64) (w0 := w) w.heap.size rfl (.tmp 25) (.tmp 30) 22 2 (.int .i64 0) 8 rfl Try.underlying22 info2 rfl (by decide) (by omega) u3 x3_1 (rd_L1 l0_1 x4_1) _ _ _ (fun _ => True) (fun _ => False) rfl rfl ?aO ?aR (fun _ _ h => h) (fun _ h => h.elim) ?aF ?aB ?aS ?aL ?_; (case aR => repeat (first | exact (Kd.C_below HR981006_0.out HB.out) | (with_reducible refine Kd.C_alloc ?_ _) | (with_reducible refine Kd.C_drewN ?_ _) | (with_reducible refine Kd.C_drew ?_))); (case aB => exact (by repeat (first | (with_reducible first | exact HB.out | apply below_alloc | apply pw_below_drewN | apply below_drew1 | refine below_set ?_ GE981001.out) | exact HB.out))); (case aF => exact (fun _ _ => trivial)); (case aO => exact (by (with_reducible repeat (first | apply Kd.R_alloc | apply Kd.R_drewN | apply Kd.R_drew)); exact HO_3.out)); (case aS => exact (below_size (by repeat (first | (with_reducible first | exact HB.out | apply below_alloc | apply pw_below_drewN | apply below_drew1 | refine below_set ?_ GE981001.out) | exact HB.out)))); (case aL => have := LMc9.out; omega); intro v981008 w11 ho hb hg hat; rw [← Ny981007.out] at ho; have n0_ := Aside0.mk (blk_grown (g := gb981001) (o := .cells #[.slice A0_0 l0_0.length c0_0, .slice (some ad981005) l0_1.length c0_1] 30 (0, 0)) (by (with_reducible repeat (first | refine blk_drewN ?_ _ | refine blk_drew ?_ | refine blk_alloc ?_ _)); exact BK981001.out) hg (Kd.R_ne HO_3.out BK981001.out (by decide))); have n1_ := Aside0.mk (hb); have n2_ := Aside0.mk (ho); clear BK981001; clear HB; clear HO_3; have BK981001 := n0_; have HB := n1_; have HO981009 := n2_; clear n0_ n1_ n2_; clear ho hb hg hat)))
    go_roundg k1
    case measure => have := HK1.out; omega
    case rel => exact ⟨(y981007), (wrap64 (x4_1 + 1)), (by first | rfl | (simp; done) | (simp [*]; done)), H', ⟨by have := HK1.out; omega⟩, ⟨by (with_reducible repeat (first | apply Kd.R_alloc | apply Kd.R_drewN | apply Kd.R_drew)); exact HO981009.out⟩, ⟨by (with_reducible repeat (first | refine blk_drewN ?_ _ | refine blk_drew ?_ | refine blk_alloc ?_ _)); exact BK981001.out⟩, ⟨by repeat (first | (with_reducible first | exact HB.out | apply below_alloc | apply pw_below_drewN | apply below_drew1 | refine below_set ?_ GE981001.out) | exact HB.out)⟩⟩
   rw [if_neg c6] at H
   have c6b0 : decide (x4_1 < (l0_1.length : Int)) = false := decide_eq_false c6
   clear c6
   have H' := Aside0.mk H
   clear H
   have hcz13_0 : wr.cell? ⟨gb981001, 0, none⟩ = some (.slice A0_0 l0_0.length c0_0) := (blk_cell BK981001.out 0).trans rfl
   have hcz13_1 : wr.cell? ⟨gb981001, 1, none⟩ = some (.slice A0_1 l0_1.length c0_1) := (blk_cell BK981001.out 1).trans rfl
   have hfz13_0 := blk_frozen BK981001.out 0
   have hfz13_1 := blk_frozen BK981001.out 1
   go_wp2
   repeat (go_quiet (fail); try go_wp2)
   go_loopg [5] k1 (fun kq v5 w' => ∃ (x5_2 : Int), v5 = .int .i64 x5_2 ∧ Aside0 (spec_l06Twice.l1 kq x3_1 x5_2 = some r) ∧ Aside0 (kq ≤ k1) ∧ Aside0 (Kd.R (Kd.int .i64) 2 w' w.heap.size (fun _ => True) u3 x3_1) ∧ Aside0 (w'.heap[gb981001]? = some (.cells #[(.slice A0_0 l0_0.length c0_0), (.slice A0_1 l0_1.length c0_1)] 30 (0, 0))) ∧ Aside0 (Below w.heap.size w w'))
   case atStart => exact ⟨(0), (by first | rfl | (simp; done) | (simp [*]; done)), H', ⟨Nat.le_refl _⟩, ⟨by (with_reducible repeat (first | apply Kd.R_alloc | apply Kd.R_drewN | apply Kd.R_drew)); exact HO_3.out⟩, ⟨by (with_reducible repeat (first | refine blk_drewN ?_ _ | refine blk_drew ?_ | refine blk_alloc ?_ _)); exact BK981001.out⟩, ⟨by repeat (first | (with_reducible first | exact HB.out | apply below_alloc | apply pw_below_drewN | apply below_drew1 | refine below_set ?_ GE981001.out) | exact HB.out)⟩⟩
   case round =>
    clear H'
    try clear p2
    try clear c6
    try clear c6b0
    try clear p6
    try clear c7
    try clear c7b0
    try clear c8
    try clear c8b0
    try clear c8b1
    try clear c9
    try clear p9
    try clear q9
    try clear hx9
    try clear hcz10_0
    try clear hcz10_1
    try clear hcz12_0
    try clear hcz12_1
    try clear hcz13_0
    try clear hcz13_1
    try clear hcz4_0
    try clear hcz4_1
    try clear hfz10_0
    try clear hfz10_1
    try clear hfz12_0
    try clear hfz12_1
    try clear hfz13_0
    try clear hfz13_1
    try clear hfz4_0
    try clear hfz4_1
    try clear hx981005_0
    try clear hx981006_0
    try clear p2
    try clear p981005
    try clear p981006
    try clear q981005
    try clear q981006
    obtain ⟨x5_2, rfl, HA, HK2, HO_3, BK981001, HB⟩ := hrel
    cases gk with
    | zero => exact absurd HA.out (by simp [spec_l06Twice.l1])
    | succ k2 =>
     have H := HA.out
     clear HA
     simp only [spec_l06Twice.l1] at H
     by_cases c14 : x5_2 < (x3_1.length : Int)
     rotate_left
     ·rw [if_neg c14] at H
      have c14b0 : decide (x5_2 < (x3_1.length : Int)) = false := decide_eq_false c14
      clear c14
      obtain rfl := Option.some.inj H
      obtain ⟨Ao26, co26, eo26⟩ := Kd.R_slice HO_3.out
      subst eo26
      go_wp2
      repeat (go_quiet (fail); try go_wp2)
      go_ret
      exact ⟨by first | rfl | (simp [errW_none, errW_some] <;> rfl) | (simp [*, errW_none, errW_some] <;> rfl), by repeat (first | (with_reducible first | exact HB.out | apply below_alloc | apply pw_below_drewN | apply below_drew1 | refine below_set ?_ GE981001.out) | exact HB.out)⟩
     rw [if_pos c14] at H
     have c14b0 : decide (x5_2 < (x3_1.length : Int)) = true := decide_eq_true c14
     clear c14
     have H' := Aside0.mk H
     clear H
     obtain ⟨Ao15, co15, eo15⟩ := Kd.R_slice HO_3.out
     subst eo15
     go_wp2
     repeat (go_quiet (fail); try go_wp2)
     go_loopg [6, 7] k2 (fun kq v6 v7 w' => ∃ (x6_3 : Int) (x7_3 : Int), v6 = .int .i64 x6_3 ∧ v7 = .int .i64 x7_3 ∧ Aside0 (spec_l06Twice.l2 kq x3_1 x5_2 x6_3 x7_3 = some r) ∧ Aside0 (kq ≤ k2) ∧ Aside0 (Kd.R (Kd.int .i64) 2 w' w.heap.size (fun _ => True) (.slice Ao15 x3_1.length co15) x3_1) ∧ Aside0 (w'.heap[gb981001]? = some (.cells #[(.slice A0_0 l0_0.length c0_0), (.slice A0_1 l0_1.length c0_1)] 30 (0, 0))) ∧ Aside0 (Below w.heap.size w w'))
     case atStart => exact ⟨(0), (0), (by first | rfl | (simp; done) | (simp [*]; done)), (by first | rfl | (simp; done) | (simp [*]; done)), H', ⟨Nat.le_refl _⟩, ⟨by (with_reducible repeat (first | apply Kd.R_alloc | apply Kd.R_drewN | apply Kd.R_drew)); exact HO_3.out⟩, ⟨by (with_reducible repeat (first | refine blk_drewN ?_ _ | refine blk_drew ?_ | refine blk_alloc ?_ _)); exact BK981001.out⟩, ⟨by repeat (first | (with_reducible first | exact HB.out | apply below_alloc | apply pw_below_drewN | apply below_drew1 | refine below_set ?_ GE981001.out) | exact HB.out)⟩⟩
     case round =>
      clear H'
      try clear c1
      try clear p2
      try clear c6
      try clear c6b0
      try clear p6
      try clear c7
      try clear c7b0
      try clear c8
      try clear c8b0
      try clear c8b1
      try clear c9
      try clear p9
      try clear q9
      try clear hx9
      try clear c14
      try clear c14b0
      try clear hcz10_0
      try clear hcz10_1
      try clear hcz12_0
      try clear hcz12_1
      try clear hcz13_0
      try clear hcz13_1
      try clear hcz4_0
      try clear hcz4_1
      try clear hfz10_0
      try clear hfz10_1
      try clear hfz12_0
      try clear hfz12_1
      try clear hfz13_0
      try clear hfz13_1
      try clear hfz4_0
      try clear hfz4_1
      try clear hx981005_0
      try clear hx981006_0
      try clear p2
      try clear p6
      try clear p9
      try clear p981005
      try clear p981006
      try clear q9
      try clear q981005
      try clear q981006
      obtain ⟨x6_3, x7_3, rfl, rfl, HA, HK3, HO_3, BK981001, HB⟩ := hrel
      cases gk with
      | zero => exact absurd HA.out (by simp [spec_l06Twice.l2])
      | succ k3 =>
       have H := HA.out
       clear HA
       simp only [spec_l06Twice.l2] at H
       by_cases c16 : x7_3 < (x3_1.length : Int)
       ·rw [if_pos c16] at H
        have c16b0 : decide (x7_3 < (x3_1.length : Int)) = true := decide_eq_true c16
        clear c16
        by_cases c17 : 0 ≤ x7_3
        rotate_left
        ·rw [if_neg c17] at H
         exact absurd H (by simp)
        rw [if_pos c17] at H
        have c17b0 : decide (0 ≤ x7_3) = true := decide_eq_true c17
        clear c17
        by_cases c18 : 0 ≤ x5_2
        rotate_left
        ·rw [if_neg c18] at H
         exact absurd H (by simp)
        rw [if_pos c18] at H
        have c18b0 : decide (0 ≤ x5_2) = true := decide_eq_true c18
        clear c18
        by_cases c19 : x5_2 < (x3_1.length : Int)
        rotate_left
        ·rw [if_neg c19] at H
         exact absurd H (by simp)
        rw [if_pos c19] at H
        have c19b0 : decide (x5_2 < (x3_1.length : Int)) = true := decide_eq_true c19
        clear c19
        by_cases c20 : (rd x3_1 x7_3) = (rd x3_1 x5_2)
        rotate_left
        ·rw [if_neg c20] at H
         have c20b0 : ((rd x3_1 x7_3) == (rd x3_1 x5_2)) = false := beq_eq_false_iff_ne.mpr c20
         have c20b1 : ((rd x3_1 x7_3) != (rd x3_1 x5_2)) = true := bne_iff_ne.mpr c20
         have H' := Aside0.mk H
         clear H
         have p981010 : 0 ≤ (x7_3 : Int) := of_decide_eq_true (by first | (with_reducible assumption) | assumption)
         have q981010 : x7_3 < (x3_1.length : Int) := of_decide_eq_true (by first | (with_reducible assumption) | assumption)
         obtain ⟨ad981010, e981010, hx981010_0⟩ := Kd.at_int (Kd.R_reads' HO_3.out).2.2 x7_3 p981010 q981010
         cases e981010
         replace p981010 := eq_true p981010
         replace q981010 := eq_true q981010
         have p981011 : 0 ≤ (x5_2 : Int) := of_decide_eq_true (by first | (with_reducible assumption) | assumption)
         have q981011 : x5_2 < (x3_1.length : Int) := of_decide_eq_true (by first | (with_reducible assumption) | assumption)
         obtain ⟨ad981011, e981011, hx981011_0⟩ := Kd.at_int (Kd.R_reads' HO_3.out).2.2 x5_2 p981011 q981011
         obtain rfl : ad981010 = ad981011 := (by injection e981011)
         replace p981011 := eq_true p981011
         replace q981011 := eq_true q981011
         go_wp2
         repeat (go_quiet (fail); try go_wp2)
         go_roundg k3
         case measure => have := HK1.out; have := HK2.out; have := HK3.out; omega
         case rel => exact ⟨(x6_3), (wrap64 (x7_3 + 1)), (by first | rfl | (simp; done) | (simp [*]; done)), (by first | rfl | (simp; done) | (simp [*]; done)), H', ⟨by have := HK1.out; have := HK2.out; have := HK3.out; omega⟩, ⟨by (with_reducible repeat (first | apply Kd.R_alloc | apply Kd.R_drewN | apply Kd.R_drew)); exact HO_3.out⟩, ⟨by (with_reducible repeat (first | refine blk_drewN ?_ _ | refine blk_drew ?_ | refine blk_alloc ?_ _)); exact BK981001.out⟩, ⟨by repeat (first | (with_reducible first | exact HB.out | apply below_alloc | apply pw_below_drewN | apply below_drew1 | refine below_set ?_ GE981001.out) | exact HB.out)⟩⟩
        rw [if_pos c20] at H
        have c20b0 : ((rd x3_1 x7_3) == (rd x3_1 x5_2)) = true := beq_iff_eq.mpr c20
        have c20b1 : ((rd x3_1 x7_3) != (rd x3_1 x5_2)) = false := bne_eq_false_iff_eq.mpr c20
        clear c20
        have H' := Aside0.mk H
        clear H
        have p981010 : 0 ≤ (x7_3 : Int) := of_decide_eq_true (by first | (with_reducible assumption) | assumption)
        have q981010 : x7_3 < (x3_1.length : Int) := of_decide_eq_true (by first | (with_reducible assumption) | assumption)
        obtain ⟨ad981010, e981010, hx981010_0⟩ := Kd.at_int (Kd.R_reads' HO_3.out).2.2 x7_3 p981010 q981010
        cases e981010
        replace p981010 := eq_true p981010
        replace q981010 := eq_true q981010
        have p981011 : 0 ≤ (x5_2 : Int) := of_decide_eq_true (by first | (with_reducible assumption) | assumption)
        have q981011 : x5_2 < (x3_1.length : Int) := of_decide_eq_true (by first | (with_reducible assumption) | assumption)
        obtain ⟨ad981011, e981011, hx981011_0⟩ := Kd.at_int (Kd.R_reads' HO_3.out).2.2 x5_2 p981011 q981011
        obtain rfl : ad981010 = ad981011 := (by injection e981011)
        replace p981011 := eq_true p981011
        replace q981011 := eq_true q981011
        go_wp2
        repeat (go_quiet (fail); try go_wp2)
        go_roundg k3
        case measure => have := HK1.out; have := HK2.out; have := HK3.out; omega
        case rel => exact ⟨(wrap64 (x6_3 + 1)), (wrap64 (x7_3 + 1)), (by first | rfl | (simp; done) | (simp [*]; done)), (by first | rfl | (simp; done) | (simp [*]; done)), H', ⟨by have := HK1.out; have := HK2.out; have := HK3.out; omega⟩, ⟨by (with_reducible repeat (first | apply Kd.R_alloc | apply Kd.R_drewN | apply Kd.R_drew)); exact HO_3.out⟩, ⟨by (with_reducible repeat (first | refine blk_drewN ?_ _ | refine blk_drew ?_ | refine blk_alloc ?_ _)); exact BK981001.out⟩, ⟨by repeat (first | (with_reducible first | exact HB.out | apply below_alloc | apply pw_below_drewN | apply below_drew1 | refine below_set ?_ GE981001.out) | exact HB.out)⟩⟩
       rw [if_neg c16] at H
       have c16b0 : decide (x7_3 < (x3_1.length : Int)) = false := decide_eq_false c16
       clear c16
       by_cases c21 : x6_3 = 2
       rotate_left
       ·rw [if_neg c21] at H
        have c21b0 : (x6_3 == 2) = false := beq_eq_false_iff_ne.mpr c21
        have c21b1 : (x6_3 != 2) = true := bne_iff_ne.mpr c21
        obtain rfl := Option.some.inj H
        go_wp2
        repeat (go_quiet (fail); try go_wp2)
        go_ret
        exact ⟨by first | rfl | (simp [errW_none, errW_some] <;> rfl) | (simp [*, errW_none, errW_some] <;> rfl), by repeat (first | (with_reducible first | exact HB.out | apply below_alloc | apply pw_below_drewN | apply below_drew1 | refine below_set ?_ GE981001.out) | exact HB.out)⟩
       rw [if_pos c21] at H
       have c21b0 : (x6_3 == 2) = true := beq_iff_eq.mpr c21
       have c21b1 : (x6_3 != 2) = false := bne_eq_false_iff_eq.mpr c21
       clear c21
       by_cases c22 : 0 ≤ x5_2
       rotate_left
       ·rw [if_neg c22] at H
        exact absurd H (by simp)
       rw [if_pos c22] at H
       have c22b0 : decide (0 ≤ x5_2) = true := decide_eq_true c22
       clear c22
       by_cases c23 : x5_2 < (x3_1.length : Int)
       rotate_left
       ·rw [if_neg c23] at H
        exact absurd H (by simp)
       rw [if_pos c23] at H
       have c23b0 : decide (x5_2 < (x3_1.length : Int)) = true := decide_eq_true c23
       clear c23
       replace H := Option.bind_eq_some_iff.mp H
       obtain ⟨t981013, A240, H⟩ := H
       replace H : (if t981013 = true then (spec_l06Twice.l1 k3 x3_1 (wrap64 (x5_2 + 1))) else (some false)) = some r := H
       have A24 := Aside0.mk A240
       clear A240
       by_cases c25 : t981013 = true
       rotate_left
       ·replace c25 := Bool.eq_false_iff.mpr c25
        subst c25
        have H1 : (some false) = some r := by rw [if_neg (show ¬ (false = true) by decide)] at H; exact H
        clear H
        have H := H1
        clear H1
        obtain rfl := Option.some.inj H
        have p981012 : 0 ≤ (x5_2 : Int) := of_decide_eq_true (by first | (with_reducible assumption) | assumption)
        have q981012 : x5_2 < (x3_1.length : Int) := of_decide_eq_true (by first | (with_reducible assumption) | assumption)
        obtain ⟨ad981012, e981012, hx981012_0⟩ := Kd.at_int (Kd.R_reads' HO_3.out).2.2 x5_2 p981012 q981012
        cases e981012
        replace p981012 := eq_true p981012
        replace q981012 := eq_true q981012
        go_wp2_with (first | (go_at_call 64; (with_reducible refine (spec_l01In.calls (rd x3_1 x5_2) 0 1000 false _ A24.out).mono ?_); rintro e w' ⟨rfl, ⟨nd, rfl⟩⟩; (try first | exact ⟨rfl, _, World.drewN_drewN _ _ _⟩ | exact ⟨rfl, _, Eq.trans (World.drewN_drewN _ _ _) (congrArg (World.drewN _) (Nat.add_assoc _ _ _))⟩)))
        repeat (go_quiet (first | (go_at_call 64; (with_reducible refine (spec_l01In.calls (rd x3_1 x5_2) 0 1000 false _ A24.out).mono ?_); rintro e w' ⟨rfl, ⟨nd, rfl⟩⟩; (try first | exact ⟨rfl, _, World.drewN_drewN _ _ _⟩ | exact ⟨rfl, _, Eq.trans (World.drewN_drewN _ _ _) (congrArg (World.drewN _) (Nat.add_assoc _ _ _))⟩))); try go_wp2_with (first | (go_at_call 64; (with_reducible refine (spec_l01In.calls (rd x3_1 x5_2) 0 1000 false _ A24.out).mono ?_); rintro e w' ⟨rfl, ⟨nd, rfl⟩⟩; (try first | exact ⟨rfl, _, World.drewN_drewN _ _ _⟩ | exact ⟨rfl, _, Eq.trans (World.drewN_drewN _ _ _) (congrArg (World.drewN _) (Nat.add_assoc _ _ _))⟩))))
        go_ret
        exact ⟨by first | rfl | (simp [errW_none, errW_some] <;> rfl) | (simp [*, errW_none, errW_some] <;> rfl), by repeat (first | (with_reducible first | exact HB.out | apply below_alloc | apply pw_below_drewN | apply below_drew1 | refine below_set ?_ GE981001.out) | exact HB.out)⟩
       subst c25
       have H1 : (spec_l06Twice.l1 k3 x3_1 (wrap64 (x5_2 + 1))) = some r := by rw [if_pos rfl] at H; exact H
       clear H
       have H := H1
       clear H1
       have H' := Aside0.mk H
       clear H
       have p981012 : 0 ≤ (x5_2 : Int) := of_decide_eq_true (by first | (with_reducible assumption) | assumption)
       have q981012 : x5_2 < (x3_1.length : Int) := of_decide_eq_true (by first | (with_reducible assumption) | assumption)
       obtain ⟨ad981012, e981012, hx981012_0⟩ := Kd.at_int (Kd.R_reads' HO_3.out).2.2 x5_2 p981012 q981012
       cases e981012
       replace p981012 := eq_true p981012
       replace q981012 := eq_true q981012
       go_wp2_with (first | (go_at_call 64; (with_reducible refine (spec_l01In.calls (rd x3_1 x5_2) 0 1000 true _ A24.out).mono ?_); rintro e w' ⟨rfl, ⟨nd, rfl⟩⟩; (try first | exact ⟨rfl, _, World.drewN_drewN _ _ _⟩ | exact ⟨rfl, _, Eq.trans (World.drewN_drewN _ _ _) (congrArg (World.drewN _) (Nat.add_assoc _ _ _))⟩)))
       repeat (go_quiet (first | (go_at_call 64; (with_reducible refine (spec_l01In.calls (rd x3_1 x5_2) 0 1000 true _ A24.out).mono ?_); rintro e w' ⟨rfl, ⟨nd, rfl⟩⟩; (try first | exact ⟨rfl, _, World.drewN_drewN _ _ _⟩ | exact ⟨rfl, _, Eq.trans (World.drewN_drewN _ _ _) (congrArg (World.drewN _) (Nat.add_assoc _ _ _))⟩))); try go_wp2_with (first | (go_at_call 64; (with_reducible refine (spec_l01In.calls (rd x3_1 x5_2) 0 1000 true _ A24.out).mono ?_); rintro e w' ⟨rfl, ⟨nd, rfl⟩⟩; (try first | exact ⟨rfl, _, World.drewN_drewN _ _ _⟩ | exact ⟨rfl, _, Eq.trans (World.drewN_drewN _ _ _) (congrArg (World.drewN _) (Nat.add_assoc _ _ _))⟩))))
       go_roundg k3
       case measure => have := HK1.out; have := HK2.out; have := HK3.out; omega
       case rel => exact ⟨(wrap64 (x5_2 + 1)), (by first | rfl | (simp; done) | (simp [*]; done)), H', ⟨by have := HK1.out; have := HK2.out; have := HK3.out; omega⟩, ⟨by (with_reducible repeat (first | apply Kd.R_alloc | apply Kd.R_drewN | apply Kd.R_drew)); exact HO_3.out⟩, ⟨by (with_reducible repeat (first | refine blk_drewN ?_ _ | refine blk_drew ?_ | refine blk_alloc ?_ _)); exact BK981001.out⟩, ⟨by repeat (first | (with_reducible first | exact HB.out | apply below_alloc | apply pw_below_drewN | apply below_drew1 | refine below_set ?_ GE981001.out) | exact HB.out)⟩⟩
end
section
open Go.RowKit Go.Proofs.YtmeggliapebkgaaW.PrintWords Go.Proofs.YtmeggliapebkgaaW.PrintLast Go.Proofs.YtmeggliapebkgaaW.PrintMore
attribute [local go_sem] max2_int min2_int max_two min_two max_three min_three max_four min_four   
set_option linter.unusedVariables false
set_option linter.unusedSimpArgs false
mutual
def spec_l06Joined.l0 : Nat → List Int → List Int → Int → Option (Bool)
 | 0, _, _, _ => none
 | k + 1, x0, x1, x5 => if x5 < (x0.length : Int) then (spec_l06Joined.l1 k x0 x1 x5 0) else (some false)
def spec_l06Joined.l1 : Nat → List Int → List Int → Int → Int → Option (Bool)
 | 0, _, _, _, _ => none
 | k + 1, x0, x1, x5, x6 => if x6 < (x1.length : Int) then (if 0 ≤ x5 then (if x5 < (x0.length : Int) then (if 0 ≤ x6 then (if (rd x0 x5) = (rd x1 x6) then (some true) else (spec_l06Joined.l1 k x0 x1 x5 (wrap64 (x6 + 1)))) else (none)) else (none)) else (none)) else (spec_l06Joined.l0 k x0 x1 (wrap64 (x5 + 1)))
end
def spec_l06Joined.f (k : Nat) (l0 : List Int) (l1 : List Int) : Option (Bool) := spec_l06Joined.l0 k l0 l1 0
theorem spec_l06Joined.mono_l : ∀ k, (∀ y0 y1 y2, LeO (spec_l06Joined.l0 k y0 y1 y2) (spec_l06Joined.l0 (k + 1) y0 y1 y2)) ∧ (∀ y0 y1 y2 y3, LeO (spec_l06Joined.l1 k y0 y1 y2 y3) (spec_l06Joined.l1 (k + 1) y0 y1 y2 y3))
 | 0 => ⟨fun _ _ _ r h => by simp [spec_l06Joined.l0] at h, fun _ _ _ _ r h => by simp [spec_l06Joined.l1] at h⟩
 | k + 1 => by
  obtain ⟨ih0, ih1⟩ := spec_l06Joined.mono_l k
  refine ⟨?_, ?_⟩
  ·intro y0 y1 y2
   unfold spec_l06Joined.l0
   repeat' first
   | (with_reducible exact ih0 _ _ _)
   | (with_reducible exact ih1 _ _ _ _)
   | (with_reducible exact LeO.refl _)
   | (with_reducible exact LeO.none _)
   | (with_reducible refine LeO.ite ?_ ?_)
   | (with_reducible refine LeO.bind ?_ (fun _ => ?_))
   | exact ih0 _ _ _
   | exact ih1 _ _ _ _
   | exact LeO.none _
   | refine LeO.ite ?_ ?_
   | refine LeO.bind ?_ (fun _ => ?_)
  ·intro y0 y1 y2 y3
   unfold spec_l06Joined.l1
   repeat' first
   | (with_reducible exact ih0 _ _ _)
   | (with_reducible exact ih1 _ _ _ _)
   | (with_reducible exact LeO.refl _)
   | (with_reducible exact LeO.none _)
   | (with_reducible refine LeO.ite ?_ ?_)
   | (with_reducible refine LeO.bind ?_ (fun _ => ?_))
   | exact ih0 _ _ _
   | exact ih1 _ _ _ _
   | exact LeO.none _
   | refine LeO.ite ?_ ?_
   | refine LeO.bind ?_ (fun _ => ?_)
theorem spec_l06Joined.mono : ∀ a0 a1 k, LeO (spec_l06Joined.f k a0 a1) (spec_l06Joined.f (k + 1) a0 a1) := by
 intro a0 a1 k
 obtain ⟨ih0, ih1⟩ := spec_l06Joined.mono_l k
 unfold spec_l06Joined.f
 repeat' first
   | (with_reducible exact ih0 _ _ _)
   | (with_reducible exact ih1 _ _ _ _)
   | (with_reducible exact LeO.refl _)
   | (with_reducible exact LeO.none _)
   | (with_reducible refine LeO.ite ?_ ?_)
   | (with_reducible refine LeO.bind ?_ (fun _ => ?_))
   | exact ih0 _ _ _
   | exact ih1 _ _ _ _
   | exact LeO.none _
   | refine LeO.ite ?_ ?_
   | refine LeO.bind ?_ (fun _ => ?_)
set_option maxHeartbeats 8000000 in
set_option maxRecDepth 100000 in
theorem spec_l06Joined.calls (k : Nat) (A0 : Option Addr) (c0 : Nat) (l0 : List Int) (A1 : Option Addr) (c1 : Nat) (l1 : List Int) (r : Bool) (w : World) (hr0 : Kd.C (Kd.int .i64) w A0 l0.length l0) (hc0 : l0.length ≤ c0) (hr1 : Kd.C (Kd.int .i64) w A1 l1.length l1) (hc1 : l1.length ≤ c1) (h : spec_l06Joined.f k l0 l1 = some r) :
  Calls Try.prog 147 #[.slice A0 l0.length c0, .slice A1 l1.length c1] w fun e w' => e = .returned (.bool r) ∧ Drawn0 w w' := by
 have HR0 := Aside0.mk hr0
 have HC0 := Aside0.mk hc0
 clear hr0 hc0
 have HR1 := Aside0.mk hr1
 have HC1 := Aside0.mk hc1
 clear hr1 hc1
 have H : (spec_l06Joined.l0 k l0 l1 0) = some r := h
 clear h
 have H' := Aside0.mk H
 clear H
 go_enter Try.func147, Try.ntmps147
 go_wp2
 repeat (go_quiet (fail); try go_wp2)
 go_loopg [5] k (fun kq v5 w' => ∃ (x5_1 : Int), v5 = .int .i64 x5_1 ∧ Aside0 (spec_l06Joined.l0 kq l0 l1 x5_1 = some r) ∧ Aside0 (kq ≤ k) ∧ Drawn0 w w')
 case atStart => exact ⟨(0), (by first | rfl | (simp; done) | (simp [*]; done)), H', ⟨Nat.le_refl _⟩, by repeat (first | exact Drawn0.refl _ | apply Drawn0.step)⟩
 case round =>
  clear H'
  try clear c1
  try clear p2
  obtain ⟨x5_1, rfl, HA, HK1, ⟨m1, rfl⟩⟩ := hrel
  cases gk with
  | zero => exact absurd HA.out (by simp [spec_l06Joined.l0])
  | succ k1 =>
   have H := HA.out
   clear HA
   simp only [spec_l06Joined.l0] at H
   by_cases c3 : x5_1 < (l0.length : Int)
   rotate_left
   ·rw [if_neg c3] at H
    have c3b0 : decide (x5_1 < (l0.length : Int)) = false := decide_eq_false c3
    clear c3
    obtain rfl := Option.some.inj H
    go_wp2
    repeat (go_quiet (fail); try go_wp2)
    go_ret
    exact ⟨by first | rfl | (simp; done) | (simp [*]; done), by repeat (first | exact Drawn0.refl _ | apply Drawn0.step)⟩
   rw [if_pos c3] at H
   have c3b0 : decide (x5_1 < (l0.length : Int)) = true := decide_eq_true c3
   clear c3
   have H' := Aside0.mk H
   clear H
   go_wp2
   repeat (go_quiet (fail); try go_wp2)
   go_loopg [6] k1 (fun kq v6 w' => ∃ (x6_2 : Int), v6 = .int .i64 x6_2 ∧ Aside0 (spec_l06Joined.l1 kq l0 l1 x5_1 x6_2 = some r) ∧ Aside0 (kq ≤ k1) ∧ Drawn0 w w')
   case atStart => exact ⟨(0), (by first | rfl | (simp; done) | (simp [*]; done)), H', ⟨Nat.le_refl _⟩, by repeat (first | exact Drawn0.refl _ | apply Drawn0.step)⟩
   case round =>
    clear H'
    try clear c1
    try clear p2
    try clear c3
    try clear c3b0
    try clear p2
    obtain ⟨x6_2, rfl, HA, HK2, ⟨m2, rfl⟩⟩ := hrel
    cases gk with
    | zero => exact absurd HA.out (by simp [spec_l06Joined.l1])
    | succ k2 =>
     have H := HA.out
     clear HA
     simp only [spec_l06Joined.l1] at H
     by_cases c4 : x6_2 < (l1.length : Int)
     rotate_left
     ·rw [if_neg c4] at H
      have c4b0 : decide (x6_2 < (l1.length : Int)) = false := decide_eq_false c4
      clear c4
      have H' := Aside0.mk H
      clear H
      go_wp2
      repeat (go_quiet (fail); try go_wp2)
      go_roundg k2
      case measure => have := HK1.out; have := HK2.out; omega
      case rel => exact ⟨(wrap64 (x5_1 + 1)), (by first | rfl | (simp; done) | (simp [*]; done)), H', ⟨by have := HK1.out; have := HK2.out; omega⟩, by repeat (first | exact Drawn0.refl _ | apply Drawn0.step)⟩
     rw [if_pos c4] at H
     have c4b0 : decide (x6_2 < (l1.length : Int)) = true := decide_eq_true c4
     clear c4
     by_cases c5 : 0 ≤ x5_1
     rotate_left
     ·rw [if_neg c5] at H
      exact absurd H (by simp)
     rw [if_pos c5] at H
     have c5b0 : decide (0 ≤ x5_1) = true := decide_eq_true c5
     clear c5
     by_cases c6 : x5_1 < (l0.length : Int)
     rotate_left
     ·rw [if_neg c6] at H
      exact absurd H (by simp)
     rw [if_pos c6] at H
     have c6b0 : decide (x5_1 < (l0.length : Int)) = true := decide_eq_true c6
     clear c6
     by_cases c7 : 0 ≤ x6_2
     rotate_left
     ·rw [if_neg c7] at H
      exact absurd H (by simp)
     rw [if_pos c7] at H
     have c7b0 : decide (0 ≤ x6_2) = true := decide_eq_true c7
     clear c7
     by_cases c8 : (rd l0 x5_1) = (rd l1 x6_2)
     ·rw [if_pos c8] at H
      have c8b0 : ((rd l0 x5_1) == (rd l1 x6_2)) = true := beq_iff_eq.mpr c8
      have c8b1 : ((rd l0 x5_1) != (rd l1 x6_2)) = false := bne_eq_false_iff_eq.mpr c8
      clear c8
      obtain rfl := Option.some.inj H
      have p1471001 : 0 ≤ (x5_1 : Int) := of_decide_eq_true (by first | (with_reducible assumption) | assumption)
      have q1471001 : x5_1 < (l0.length : Int) := of_decide_eq_true (by first | (with_reducible assumption) | assumption)
      obtain ⟨ad1471001, e1471001, hx1471001_0⟩ := Kd.at_int HR0.out x5_1 p1471001 q1471001
      cases e1471001
      replace p1471001 := eq_true p1471001
      replace q1471001 := eq_true q1471001
      have p1471002 : 0 ≤ (x6_2 : Int) := of_decide_eq_true (by first | (with_reducible assumption) | assumption)
      have q1471002 : x6_2 < (l1.length : Int) := of_decide_eq_true (by first | (with_reducible assumption) | assumption)
      obtain ⟨ad1471002, e1471002, hx1471002_0⟩ := Kd.at_int HR1.out x6_2 p1471002 q1471002
      cases e1471002
      replace p1471002 := eq_true p1471002
      replace q1471002 := eq_true q1471002
      go_wp2
      repeat (go_quiet (fail); try go_wp2)
      go_ret
      exact ⟨by first | rfl | (simp; done) | (simp [*]; done), by repeat (first | exact Drawn0.refl _ | apply Drawn0.step)⟩
     rw [if_neg c8] at H
     have c8b0 : ((rd l0 x5_1) == (rd l1 x6_2)) = false := beq_eq_false_iff_ne.mpr c8
     have c8b1 : ((rd l0 x5_1) != (rd l1 x6_2)) = true := bne_iff_ne.mpr c8
     have H' := Aside0.mk H
     clear H
     have p1471001 : 0 ≤ (x5_1 : Int) := of_decide_eq_true (by first | (with_reducible assumption) | assumption)
     have q1471001 : x5_1 < (l0.length : Int) := of_decide_eq_true (by first | (with_reducible assumption) | assumption)
     obtain ⟨ad1471001, e1471001, hx1471001_0⟩ := Kd.at_int HR0.out x5_1 p1471001 q1471001
     cases e1471001
     replace p1471001 := eq_true p1471001
     replace q1471001 := eq_true q1471001
     have p1471002 : 0 ≤ (x6_2 : Int) := of_decide_eq_true (by first | (with_reducible assumption) | assumption)
     have q1471002 : x6_2 < (l1.length : Int) := of_decide_eq_true (by first | (with_reducible assumption) | assumption)
     obtain ⟨ad1471002, e1471002, hx1471002_0⟩ := Kd.at_int HR1.out x6_2 p1471002 q1471002
     cases e1471002
     replace p1471002 := eq_true p1471002
     replace q1471002 := eq_true q1471002
     go_wp2
     repeat (go_quiet (fail); try go_wp2)
     go_roundg k2
     case measure => have := HK1.out; have := HK2.out; omega
     case rel => exact ⟨(wrap64 (x6_2 + 1)), (by first | rfl | (simp; done) | (simp [*]; done)), H', ⟨by have := HK1.out; have := HK2.out; omega⟩, by repeat (first | exact Drawn0.refl _ | apply Drawn0.step)⟩
end
section
open Go.RowKit Go.Proofs.YtmeggliapebkgaaW.PrintWords Go.Proofs.YtmeggliapebkgaaW.PrintLast Go.Proofs.YtmeggliapebkgaaW.PrintMore
attribute [local go_sem] max2_int min2_int max_two min_two max_three min_three max_four min_four   
set_option linter.unusedVariables false
set_option linter.unusedSimpArgs false
def spec_l06Edges.f (l0_0 : List Int) (l0_1 : List (List Int)) (a1 : Int) : Option (List Int) := if a1 < (l0_0.length : Int) then (if 0 ≤ a1 then (some (([rd l0_0 a1] : List Int))) else (none)) else (if 0 ≤ (wrap64 (a1 - (l0_0.length : Int))) then (if (wrap64 (a1 - (l0_0.length : Int))) < (l0_1.length : Int) then (some (rd_L1 l0_1 (wrap64 (a1 - (l0_0.length : Int))))) else (none)) else (none))
set_option maxHeartbeats 8000000 in
set_option maxRecDepth 100000 in
theorem spec_l06Edges.calls (A0_0 : Option Addr) (c0_0 : Nat) (l0_0 : List Int) (P0_1_ : Nat → Prop) (A0_1 : Option Addr) (c0_1 : Nat) (l0_1 : List (List Int)) (a1 : Int) (r : List Int) (w : World) (hr0_0 : Kd.C (Kd.int .i64) w A0_0 l0_0.length l0_0) (hc0_0 : l0_0.length ≤ c0_0) (hs0_1 : Kd.V (Kd.slice 2 (Kd.int .i64)) 22 w w.heap.size (fun k_ => P0_1_ k_) (.slice A0_1 l0_1.length c0_1) l0_1) (h : spec_l06Edges.f l0_0 l0_1 a1 = some r) :
  Calls Try.prog 148 #[.agg #[.slice A0_0 l0_0.length c0_0, .slice A0_1 l0_1.length c0_1], .int .i64 a1] w fun e w' => ∃ v0_ : Value, e = .returned (v0_) ∧ Kd.V (Kd.int .i64) 2 w' w.heap.size (fun k_ => (P0_1_ k_ ∨ w.heap.size ≤ k_)) v0_ r ∧ Below w.heap.size w w' := by
 have hu30 := Try.underlying30
 have HR0_0 := Aside0.mk hr0_0
 have HC0_0 := Aside0.mk hc0_0
 clear hr0_0 hc0_0
 have HO0_1 := Aside0.mk (show Kd.V (Kd.slice 2 (Kd.int .i64)) 22 w w.heap.size (fun k_ => (P0_1_ k_ ∨ w.heap.size ≤ k_)) (.slice A0_1 l0_1.length c0_1) l0_1 from Kd.V_mono hs0_1 (fun k_ hk => .inl hk))
 have HB := Aside0.mk (Below.refl w.heap.size w)
 have H : (if a1 < (l0_0.length : Int) then (if 0 ≤ a1 then (some (([rd l0_0 a1] : List Int))) else (none)) else (if 0 ≤ (wrap64 (a1 - (l0_0.length : Int))) then (if (wrap64 (a1 - (l0_0.length : Int))) < (l0_1.length : Int) then (some (rd_L1 l0_1 (wrap64 (a1 - (l0_0.length : Int))))) else (none)) else (none))) = some r := h
 clear h
 by_cases c3 : a1 < (l0_0.length : Int)
 rotate_left
 ·rw [if_neg c3] at H
  have c3b0 : decide (a1 < (l0_0.length : Int)) = false := decide_eq_false c3
  clear c3
  obtain ⟨ji9, hji9⟩ : ∃ j_ : Int, (wrap64 (a1 - (l0_0.length : Int))) = j_ := ⟨_, rfl⟩
  replace H : (if 0 ≤ (ji9) then (if (ji9) < (l0_1.length : Int) then (some (rd_L1 l0_1 (ji9))) else (none)) else (none)) = some r := by first | (rw [hji9] at H; exact H) | (simp only [hji9] at H ⊢; exact H)
  have hji9w : (IntKind.i64.wrap (a1 - (l0_0.length : Int))) = ji9 := (i64_w _).trans hji9
  by_cases c10 : 0 ≤ (ji9)
  rotate_left
  ·rw [if_neg c10] at H
   exact absurd H (by simp)
  rw [if_pos c10] at H
  have c10b0 : decide (0 ≤ (ji9)) = true := decide_eq_true c10
  clear c10
  by_cases c11 : (ji9) < (l0_1.length : Int)
  rotate_left
  ·rw [if_neg c11] at H
   exact absurd H (by simp)
  rw [if_pos c11] at H
  have c11b0 : decide ((ji9) < (l0_1.length : Int)) = true := decide_eq_true c11
  clear c11
  obtain rfl := Option.some.inj H
  go_enter Try.func148, Try.ntmps148
  go_wp2_with (first | ((with_reducible refine gate_dst (N := 2) rfl ?_); refine box_event ?hg (N := 2) ?hd (cs := #[.slice A0_0 l0_0.length c0_0, .slice A0_1 l0_1.length c0_1]) (t := 30) ?hr ?_; (case hd => rfl); (case hg => rfl); (case hr => first | (go_simp; done) | (go_simp; rfl)); intro gb1481001 hg w12 hbox hb; have n0_ := Aside0.mk (Kd.V_below (Kd.V_elderB (by (with_reducible repeat (first | apply Kd.V_alloc | apply Kd.V_drewN | apply Kd.V_drew)); exact HO0_1.out) gb1481001 (Nat.le_of_eq hg.symm)) hb); have n1_ := Aside0.mk (below_step (by repeat (first | (with_reducible first | exact HB.out | apply below_alloc | apply pw_below_drewN | apply below_drew1) | exact HB.out)) hb); have n2_ := Aside0.mk (hbox); have n3_ := Aside0.mk ((by rw [hg]; exact (below_size (by repeat (first | (with_reducible first | exact HB.out | apply below_alloc | apply pw_below_drewN | apply below_drew1) | exact HB.out))) : w.heap.size ≤ gb1481001)); have n4_ := Aside0.mk ((by rw [hg]; exact (below_size (by repeat (first | (with_reducible first | exact HB.out | apply below_alloc | apply pw_below_drewN | apply below_drew1) | exact HB.out))) : w.heap.size ≤ gb1481001)); clear HO0_1; clear HB; have HO0_1 := n0_; have HB := n1_; have BK1481001 := n2_; have GW1481001 := n3_; have GE1481001 := n4_; clear n0_ n1_ n2_ n3_ n4_; clear hb hbox hg; have hcz13_0 : w12.cell? ⟨gb1481001, 0, none⟩ = some (.slice A0_0 l0_0.length c0_0) := (blk_cell BK1481001.out 0).trans rfl; have hcz13_1 : w12.cell? ⟨gb1481001, 1, none⟩ = some (.slice A0_1 l0_1.length c0_1) := (blk_cell BK1481001.out 1).trans rfl; have hfz13_0 := blk_frozen BK1481001.out 0; have hfz13_1 := blk_frozen BK1481001.out 1; have p1481006 : 0 ≤ ((ji9) : Int) := of_decide_eq_true (by first | (with_reducible assumption) | assumption); have q1481006 : (ji9) < (l0_1.length : Int) := of_decide_eq_true (by first | (with_reducible assumption) | assumption); obtain ⟨ad1481006, A1481006_0, c1481006_0, e1481006, hx1481006_0, hl1481006_0, hi1481006_0⟩ := at_L1 (Kd.V_reads' HO0_1.out).2.2 (ji9) p1481006 q1481006; cases e1481006; obtain ⟨ce1481006, hce1481006, hMe1481006, hcc1481006⟩ := Kd.V_get HO0_1.out [] (ji9) p1481006 (by first | exact q1481006 | exact of_decide_eq_true (by first | (with_reducible assumption) | assumption) | (have e_ := (Kd.V_reads' HO0_1.out).1; omega)); obtain ⟨ua1481006_0, uc1481006_0, rfl, ul1481006_0, ge1481006_0⟩ := Kd.FK_slice_open hMe1481006; have hv1481006_0 := hcc1481006 0 _ rfl; rw [Nat.add_zero, show ((Kd.slice 2 (Kd.int .i64))).sz = 1 from rfl, Nat.mul_one] at hv1481006_0; replace hv1481006_0 := Option.some.inj (hv1481006_0.symm.trans hx1481006_0); injection hv1481006_0 with hva_ hvn_ hvc_; rw [hva_] at ge1481006_0; rw [hvc_] at ul1481006_0; have HL1481006_0 := Aside0.mk (show Kd.V (Kd.int .i64) 2 _ w.heap.size _ _ (rd_L1 l0_1 (ji9)) from Kd.V_mk ul1481006_0 ge1481006_0); clear hva_ hvn_ hvc_ ge1481006_0 ul1481006_0; clear hcc1481006 hce1481006; have HR1481006_0 := Aside0.mk hi1481006_0; have HC1481006_0 := Aside0.mk hl1481006_0; clear hi1481006_0 hl1481006_0; replace p1481006 := eq_true p1481006; replace q1481006 := eq_true q1481006))
  go_ret
  exact ⟨_, by first | rfl | (simp [errW_none, errW_some] <;> rfl) | (simp only [← hji9]; first | rfl | (simp [errW_none, errW_some] <;> rfl)) | (simp [*, errW_none, errW_some] <;> rfl), by (with_reducible repeat (first | apply Kd.V_alloc | apply Kd.V_drewN | apply Kd.V_drew)); exact Kd.V_mono HL1481006_0.out (fun _ hk => hk.1), by repeat (first | (with_reducible first | exact HB.out | apply below_alloc | apply pw_below_drewN | apply below_drew1 | refine below_set ?_ GE1481001.out) | exact HB.out)⟩
 rw [if_pos c3] at H
 have c3b0 : decide (a1 < (l0_0.length : Int)) = true := decide_eq_true c3
 clear c3
 by_cases c4 : 0 ≤ a1
 rotate_left
 ·rw [if_neg c4] at H
  exact absurd H (by simp)
 rw [if_pos c4] at H
 have c4b0 : decide (0 ≤ a1) = true := decide_eq_true c4
 clear c4
 obtain ⟨y1481003, hy1481003⟩ : ∃ y_ : List Int, y_ = (([rd l0_0 a1] : List Int)) := ⟨_, rfl⟩
 replace H : (some y1481003) = some r := by first | (rw [hy1481003]; with_reducible exact H) | (have H2_ := (Option.bind_some _ _).symm.trans H; rw [hy1481003]; with_reducible exact H2_) | (have H2_ := (Option.bind_some _ _).symm.trans H; with_reducible exact H2_) | with_reducible exact H | (rw [hy1481003]; exact H) | exact H
 have Ny1481003 := Aside0.mk hy1481003
 clear hy1481003
 obtain rfl := Option.some.inj H
 go_enter Try.func148, Try.ntmps148
 go_wp2_with (first | ((with_reducible refine gate_dst (N := 2) rfl ?_); refine box_event ?hg (N := 2) ?hd (cs := #[.slice A0_0 l0_0.length c0_0, .slice A0_1 l0_1.length c0_1]) (t := 30) ?hr ?_; (case hd => rfl); (case hg => rfl); (case hr => first | (go_simp; done) | (go_simp; rfl)); intro gb1481001 hg w5 hbox hb; have n0_ := Aside0.mk (Kd.V_below (Kd.V_elderB (by (with_reducible repeat (first | apply Kd.V_alloc | apply Kd.V_drewN | apply Kd.V_drew)); exact HO0_1.out) gb1481001 (Nat.le_of_eq hg.symm)) hb); have n1_ := Aside0.mk (below_step (by repeat (first | (with_reducible first | exact HB.out | apply below_alloc | apply pw_below_drewN | apply below_drew1) | exact HB.out)) hb); have n2_ := Aside0.mk (hbox); have n3_ := Aside0.mk ((by rw [hg]; exact (below_size (by repeat (first | (with_reducible first | exact HB.out | apply below_alloc | apply pw_below_drewN | apply below_drew1) | exact HB.out))) : w.heap.size ≤ gb1481001)); have n4_ := Aside0.mk ((by rw [hg]; exact (below_size (by repeat (first | (with_reducible first | exact HB.out | apply below_alloc | apply pw_below_drewN | apply below_drew1) | exact HB.out))) : w.heap.size ≤ gb1481001)); clear HO0_1; clear HB; have HO0_1 := n0_; have HB := n1_; have BK1481001 := n2_; have GW1481001 := n3_; have GE1481001 := n4_; clear n0_ n1_ n2_ n3_ n4_; clear hb hbox hg; have hcz6_0 : w5.cell? ⟨gb1481001, 0, none⟩ = some (.slice A0_0 l0_0.length c0_0) := (blk_cell BK1481001.out 0).trans rfl; have hcz6_1 : w5.cell? ⟨gb1481001, 1, none⟩ = some (.slice A0_1 l0_1.length c0_1) := (blk_cell BK1481001.out 1).trans rfl; have hfz6_0 := blk_frozen BK1481001.out 0; have hfz6_1 := blk_frozen BK1481001.out 1; have p1481002 : 0 ≤ (a1 : Int) := of_decide_eq_true (by first | (with_reducible assumption) | assumption); have q1481002 : a1 < (l0_0.length : Int) := of_decide_eq_true (by first | (with_reducible assumption) | assumption); obtain ⟨ad1481002, e1481002, hx1481002_0⟩ := Kd.at_int HR0_0.out a1 p1481002 q1481002; cases e1481002; replace hx1481002_0 := (HB.out.cell (World.block_lt_of_cell? w _ hx1481002_0)).trans hx1481002_0; replace p1481002 := eq_true p1481002; replace q1481002 := eq_true q1481002) | ((with_reducible refine gate_dst (N := 15) rfl ?_); refine Kd.R_lit (Kd.int .i64) _ 2 ?hg (N := 15) ?hd (xs := ([rd l0_0 a1] : List Int)) (inner := [.int .i64 (rd l0_0 a1)]) (ok := fun _ => True) (okp := fun _ => True) ?hr ?hp (fun _ hk => hk) trivial (Below.refl _ _) (Nat.le_refl _) (by simp) ?_; (case hd => rfl); (case hg => rfl); (case hr => first | (go_simp; done) | (go_simp; rfl)); (case hp => exact (Reps.one (show Kd.M (Kd.int .i64) _ _ _ (rd l0_0 a1) [.int .i64 (rd l0_0 a1)] from rfl) (Reps.none _ _))); intro v1481004 w7 ho8 hb hg_ hnew_; clear hg_ hnew_; (first | rw [← Ny1481003.out] at ho8 | (simp only [Int.reduceToNat] at ho8; rw [← Ny1481003.out] at ho8)); have n0_ := Aside0.mk (Kd.V_elder' (by (with_reducible repeat (first | apply Kd.V_alloc | apply Kd.V_drewN | apply Kd.V_drew)); exact HO0_1.out) (Kd.R_base ho8) hb); have n1_ := Aside0.mk (Kd.R_lower (Kd.R_newM (M := fun k_ => (w.heap.size ≤ k_)) ho8 (below_size (by repeat (first | (with_reducible first | exact HB.out | apply below_alloc | apply pw_below_drewN | apply below_drew1 | refine below_set ?_ GE1481001.out) | exact HB.out))) (fun k_ h_ => h_)) (below_size (by repeat (first | (with_reducible first | exact HB.out | apply below_alloc | apply pw_below_drewN | apply below_drew1 | refine below_set ?_ GE1481001.out) | exact HB.out)))); have n2_ := Aside0.mk (blk_below (g := gb1481001) (o := .cells #[.slice (some ad1481002) l0_0.length c0_0, .slice A0_1 l0_1.length c0_1] 30 (0, 0)) (by (with_reducible repeat (first | refine blk_drewN ?_ _ | refine blk_drew ?_ | refine blk_alloc ?_ _)); exact BK1481001.out) hb); have n3_ := Aside0.mk (below_step (by repeat (first | (with_reducible first | exact HB.out | apply below_alloc | apply pw_below_drewN | apply below_drew1 | refine below_set ?_ GE1481001.out) | exact HB.out)) hb); clear HO0_1; clear BK1481001; clear HB; have HO0_1 := n0_; have HO1481005 := n1_; have BK1481001 := n2_; have HB := n3_; clear n0_ n1_ n2_ n3_; clear hb ho8))
 go_ret
 exact ⟨_, by first | rfl | (simp [errW_none, errW_some] <;> rfl) | (simp [*, errW_none, errW_some] <;> rfl), Kd.V_mono (Kd.R_V (by (with_reducible repeat (first | apply Kd.R_alloc | apply Kd.R_drewN | apply Kd.R_drew)); exact Kd.R_mono HO1481005.out (fun _ hk => hk.1))) (fun k_ hk => by first | exact ⟨(.inr (hk.1)), hk.2⟩ | exact (.inr (hk))), by repeat (first | (with_reducible first | exact HB.out | apply below_alloc | apply pw_below_drewN | apply below_drew1 | refine below_set ?_ GE1481001.out) | exact HB.out)⟩
end
section
open Go.RowKit Go.Proofs.YtmeggliapebkgaaW.PrintWords Go.Proofs.YtmeggliapebkgaaW.PrintLast Go.Proofs.YtmeggliapebkgaaW.PrintMore
attribute [local go_sem] max2_int min2_int max_two min_two max_three min_three max_four min_four   
set_option linter.unusedVariables false
set_option linter.unusedSimpArgs false
mutual
def spec_l06Parts.l0 : Nat → Int → List Int → Int → List Int → List (List Int) → Option (List Int)
 | 0, _, _, _, _, _ => none
 | k + 1, x3, x4, x5, x991002000, x991002001 => if x5 < (wrap64 (x3 + (x991002001.length : Int))) then (if x4.length < 17592186044416 then (spec_l06Parts.l0 k x3 (x4 ++ [x5]) (wrap64 (x5 + 1)) x991002000 x991002001) else (none)) else (spec_l06Parts.l1 k x4 true x991002000 x991002001)
def spec_l06Parts.l1 : Nat → List Int → Bool → List Int → List (List Int) → Option (List Int)
 | 0, _, _, _, _ => none
 | k + 1, x4, x6, x991002000, x991002001 => if x6 = true then (spec_l06Parts.l2 k x4 false 0 x991002000 x991002001) else (some x4)
def spec_l06Parts.l2 : Nat → List Int → Bool → Int → List Int → List (List Int) → Option (List Int)
 | 0, _, _, _, _, _ => none
 | k + 1, x4, x6, x7, x991002000, x991002001 => if x7 < (x4.length : Int) then (spec_l06Parts.l3 k x4 x6 x7 0 x991002000 x991002001) else (spec_l06Parts.l1 k x4 x6 x991002000 x991002001)
def spec_l06Parts.l3 : Nat → List Int → Bool → Int → Int → List Int → List (List Int) → Option (List Int)
 | 0, _, _, _, _, _, _ => none
 | k + 1, x4, x6, x7, x8, x991002000, x991002001 => if x8 < x7 then (if 0 ≤ x7 then (if x7 < (x4.length : Int) then (if 0 ≤ x8 then (if x8 < (x4.length : Int) then (if (rd x4 x7) = (rd x4 x8) then (spec_l06Parts.l3 k x4 x6 x7 (wrap64 (x8 + 1)) x991002000 x991002001) else ((spec_l06Edges.f x991002000 x991002001 x7).bind fun t991010 => ((spec_l06Edges.f x991002000 x991002001 x8).bind fun t991013 => ((spec_l06Joined.f k t991010 t991013).bind fun t991016 => (if t991016 = true then (spec_l06Parts.l3 k ((x4.set (x7 : Int).toNat (mn (rd x4 x7) (rd x4 x8))).set (x8 : Int).toNat (mn (rd x4 x7) (rd x4 x8))) true x7 (wrap64 (x8 + 1)) x991002000 x991002001) else (spec_l06Parts.l3 k x4 x6 x7 (wrap64 (x8 + 1)) x991002000 x991002001)))))) else (none)) else (none)) else (none)) else (none)) else (spec_l06Parts.l2 k x4 x6 (wrap64 (x7 + 1)) x991002000 x991002001)
end
def spec_l06Parts.f (k : Nat) (l0_0 : List Int) (l0_1 : List (List Int)) : Option (List Int) := spec_l06Parts.l0 k (l0_0.length : Int) (([] : List Int)) 0 l0_0 l0_1
theorem spec_l06Parts.mono_l : ∀ k, (∀ y0 y1 y2 y3 y4, LeO (spec_l06Parts.l0 k y0 y1 y2 y3 y4) (spec_l06Parts.l0 (k + 1) y0 y1 y2 y3 y4)) ∧ (∀ y0 y1 y2 y3, LeO (spec_l06Parts.l1 k y0 y1 y2 y3) (spec_l06Parts.l1 (k + 1) y0 y1 y2 y3)) ∧ (∀ y0 y1 y2 y3 y4, LeO (spec_l06Parts.l2 k y0 y1 y2 y3 y4) (spec_l06Parts.l2 (k + 1) y0 y1 y2 y3 y4)) ∧ (∀ y0 y1 y2 y3 y4 y5, LeO (spec_l06Parts.l3 k y0 y1 y2 y3 y4 y5) (spec_l06Parts.l3 (k + 1) y0 y1 y2 y3 y4 y5))
 | 0 => ⟨fun _ _ _ _ _ r h => by simp [spec_l06Parts.l0] at h, fun _ _ _ _ r h => by simp [spec_l06Parts.l1] at h, fun _ _ _ _ _ r h => by simp [spec_l06Parts.l2] at h, fun _ _ _ _ _ _ r h => by simp [spec_l06Parts.l3] at h⟩
 | k + 1 => by
  obtain ⟨ih0, ih1, ih2, ih3⟩ := spec_l06Parts.mono_l k
  refine ⟨?_, ?_, ?_, ?_⟩
  ·intro y0 y1 y2 y3 y4
   unfold spec_l06Parts.l0
   repeat' first
   | (with_reducible exact ih0 _ _ _ _ _)
   | (with_reducible exact ih1 _ _ _ _)
   | (with_reducible exact ih2 _ _ _ _ _)
   | (with_reducible exact ih3 _ _ _ _ _ _)
   | (with_reducible exact spec_l06Joined.mono _ _ _)
   | (with_reducible exact LeO.refl _)
   | (with_reducible exact LeO.none _)
   | (with_reducible refine LeO.ite ?_ ?_)
   | (with_reducible refine LeO.bind ?_ (fun _ => ?_))
   | exact ih0 _ _ _ _ _
   | exact ih1 _ _ _ _
   | exact ih2 _ _ _ _ _
   | exact ih3 _ _ _ _ _ _
   | exact spec_l06Joined.mono _ _ _
   | exact LeO.none _
   | refine LeO.ite ?_ ?_
   | refine LeO.bind ?_ (fun _ => ?_)
  ·intro y0 y1 y2 y3
   unfold spec_l06Parts.l1
   repeat' first
   | (with_reducible exact ih0 _ _ _ _ _)
   | (with_reducible exact ih1 _ _ _ _)
   | (with_reducible exact ih2 _ _ _ _ _)
   | (with_reducible exact ih3 _ _ _ _ _ _)
   | (with_reducible exact spec_l06Joined.mono _ _ _)
   | (with_reducible exact LeO.refl _)
   | (with_reducible exact LeO.none _)
   | (with_reducible refine LeO.ite ?_ ?_)
   | (with_reducible refine LeO.bind ?_ (fun _ => ?_))
   | exact ih0 _ _ _ _ _
   | exact ih1 _ _ _ _
   | exact ih2 _ _ _ _ _
   | exact ih3 _ _ _ _ _ _
   | exact spec_l06Joined.mono _ _ _
   | exact LeO.none _
   | refine LeO.ite ?_ ?_
   | refine LeO.bind ?_ (fun _ => ?_)
  ·intro y0 y1 y2 y3 y4
   unfold spec_l06Parts.l2
   repeat' first
   | (with_reducible exact ih0 _ _ _ _ _)
   | (with_reducible exact ih1 _ _ _ _)
   | (with_reducible exact ih2 _ _ _ _ _)
   | (with_reducible exact ih3 _ _ _ _ _ _)
   | (with_reducible exact spec_l06Joined.mono _ _ _)
   | (with_reducible exact LeO.refl _)
   | (with_reducible exact LeO.none _)
   | (with_reducible refine LeO.ite ?_ ?_)
   | (with_reducible refine LeO.bind ?_ (fun _ => ?_))
   | exact ih0 _ _ _ _ _
   | exact ih1 _ _ _ _
   | exact ih2 _ _ _ _ _
   | exact ih3 _ _ _ _ _ _
   | exact spec_l06Joined.mono _ _ _
   | exact LeO.none _
   | refine LeO.ite ?_ ?_
   | refine LeO.bind ?_ (fun _ => ?_)
  ·intro y0 y1 y2 y3 y4 y5
   unfold spec_l06Parts.l3
   repeat' first
   | (with_reducible exact ih0 _ _ _ _ _)
   | (with_reducible exact ih1 _ _ _ _)
   | (with_reducible exact ih2 _ _ _ _ _)
   | (with_reducible exact ih3 _ _ _ _ _ _)
   | (with_reducible exact spec_l06Joined.mono _ _ _)
   | (with_reducible exact LeO.refl _)
   | (with_reducible exact LeO.none _)
   | (with_reducible refine LeO.ite ?_ ?_)
   | (with_reducible refine LeO.bind ?_ (fun _ => ?_))
   | exact ih0 _ _ _ _ _
   | exact ih1 _ _ _ _
   | exact ih2 _ _ _ _ _
   | exact ih3 _ _ _ _ _ _
   | exact spec_l06Joined.mono _ _ _
   | exact LeO.none _
   | refine LeO.ite ?_ ?_
   | refine LeO.bind ?_ (fun _ => ?_)
theorem spec_l06Parts.mono : ∀ a0 a1 k, LeO (spec_l06Parts.f k a0 a1) (spec_l06Parts.f (k + 1) a0 a1) := by
 intro a0 a1 k
 obtain ⟨ih0, ih1, ih2, ih3⟩ := spec_l06Parts.mono_l k
 unfold spec_l06Parts.f
 repeat' first
   | (with_reducible exact ih0 _ _ _ _ _)
   | (with_reducible exact ih1 _ _ _ _)
   | (with_reducible exact ih2 _ _ _ _ _)
   | (with_reducible exact ih3 _ _ _ _ _ _)
   | (with_reducible exact spec_l06Joined.mono _ _ _)
   | (with_reducible exact LeO.refl _)
   | (with_reducible exact LeO.none _)
   | (with_reducible refine LeO.ite ?_ ?_)
   | (with_reducible refine LeO.bind ?_ (fun _ => ?_))
   | exact ih0 _ _ _ _ _
   | exact ih1 _ _ _ _
   | exact ih2 _ _ _ _ _
   | exact ih3 _ _ _ _ _ _
   | exact spec_l06Joined.mono _ _ _
   | exact LeO.none _
   | refine LeO.ite ?_ ?_
   | refine LeO.bind ?_ (fun _ => ?_)
def spec_l06Parts.T16 : Bool × List (List Nat × List Nat) := (true, [([], []), ([], []), ([0, 1], [0, 1]), ([2], [2]), ([], []), ([], []), ([4, 5], [4, 5]), ([6], [6]), ([3, 7], [3, 7]), ([8], [8]), ([9], [9]), ([9], [9]), ([10, 11, 9, 9], [9, 10, 11]), ([9], [9]), ([9], [9]), ([13, 14, 12, 9], [9, 13, 14]), ([12, 15, 15, 9], [9, 12, 15]), ([16, 9], [9, 16]), ([9, 17], [9, 17])])
def spec_l06Parts.B16 : List Nat := [0, 0, 3, 7, 0, 0, 48, 112, 255, 511, 1023, 1023, 4095, 1023, 1023, 32767, 65535, 131071, 262143]
theorem spec_l06Parts.tab16 : rtab .any (opsOf Try.f99 16) = spec_l06Parts.T16 := by kernel_rfl
theorem spec_l06Parts.bits16 : waitsOk spec_l06Parts.T16.2 spec_l06Parts.B16 = true := by kernel_rfl
def spec_l06Parts.T17 : Bool × List (List Nat × List Nat) := (true, [([], []), ([], []), ([0, 1], [0, 1]), ([2], [2]), ([], []), ([], []), ([4, 5], [4, 5]), ([6], [6]), ([3, 7], [3, 7]), ([8, 0, 1, 2, 3, 4, 5, 6, 7, 8], [8])])
def spec_l06Parts.B17 : List Nat := [0, 0, 3, 7, 0, 0, 48, 112, 255, 511]
theorem spec_l06Parts.tab17 : rtab .any (opsOf Try.f99 17) = spec_l06Parts.T17 := by kernel_rfl
theorem spec_l06Parts.bits17 : waitsOk spec_l06Parts.T17.2 spec_l06Parts.B17 = true := by kernel_rfl
set_option maxHeartbeats 8000000 in
set_option maxRecDepth 100000 in
theorem spec_l06Parts.calls (k : Nat) (A0_0 : Option Addr) (c0_0 : Nat) (l0_0 : List Int) (A0_1 : Option Addr) (c0_1 : Nat) (l0_1 : List (List Int)) (r : List Int) (w : World) (hr0_0 : Kd.C (Kd.int .i64) w A0_0 l0_0.length l0_0) (hc0_0 : l0_0.length ≤ c0_0) (hr0_1 : Kd.C (Kd.slice 2 (Kd.int .i64)) w A0_1 l0_1.length l0_1) (hc0_1 : l0_1.length ≤ c0_1) (h : spec_l06Parts.f k l0_0 l0_1 = some r) :
  Calls Try.prog 99 #[.agg #[.slice A0_0 l0_0.length c0_0, .slice A0_1 l0_1.length c0_1]] w fun e w' => ∃ v0_ : Value, e = .returned (v0_) ∧ Kd.R (Kd.int .i64) 3 w' w.heap.size (fun _ => True) v0_ r ∧ Below w.heap.size w w' := by
 have hu30 := Try.underlying30
 have HR0_0 := Aside0.mk hr0_0
 have HC0_0 := Aside0.mk hc0_0
 clear hr0_0 hc0_0
 have HR0_1 := Aside0.mk hr0_1
 have HC0_1 := Aside0.mk hc0_1
 clear hr0_1 hc0_1
 have HB := Aside0.mk (Below.refl w.heap.size w)
 have H : (spec_l06Parts.l0 k (l0_0.length : Int) (([] : List Int)) 0 l0_0 l0_1) = some r := h
 clear h
 obtain ⟨y991002, hy991002⟩ : ∃ y_ : List Int, y_ = (([] : List Int)) := ⟨_, rfl⟩
 replace H : (spec_l06Parts.l0 k (l0_0.length : Int) y991002 0 l0_0 l0_1) = some r := by first | (rw [hy991002]; with_reducible exact H) | (have H2_ := (Option.bind_some _ _).symm.trans H; rw [hy991002]; with_reducible exact H2_) | (have H2_ := (Option.bind_some _ _).symm.trans H; with_reducible exact H2_) | with_reducible exact H | (rw [hy991002]; exact H) | exact H
 have Ny991002 := Aside0.mk hy991002
 clear hy991002
 have H' := Aside0.mk H
 clear H
 go_enter Try.func99, Try.ntmps99
 go_wp2_with (first | ((with_reducible refine gate_dst (N := 1) rfl ?_); refine box_event ?hg (N := 1) ?hd (cs := #[.slice A0_0 l0_0.length c0_0, .slice A0_1 l0_1.length c0_1]) (t := 30) ?hr ?_; (case hd => rfl); (case hg => rfl); (case hr => first | (go_simp; done) | (go_simp; rfl)); intro gb991001 hg w2 hbox hb; have n0_ := Aside0.mk (below_step (by repeat (first | (with_reducible first | exact HB.out | apply below_alloc | apply pw_below_drewN | apply below_drew1) | exact HB.out)) hb); have n1_ := Aside0.mk (hbox); have n2_ := Aside0.mk ((by rw [hg]; exact (below_size (by repeat (first | (with_reducible first | exact HB.out | apply below_alloc | apply pw_below_drewN | apply below_drew1) | exact HB.out))) : w.heap.size ≤ gb991001)); have n3_ := Aside0.mk ((by rw [hg]; exact (below_size (by repeat (first | (with_reducible first | exact HB.out | apply below_alloc | apply pw_below_drewN | apply below_drew1) | exact HB.out))) : w.heap.size ≤ gb991001)); clear HB; have HB := n0_; have BK991001 := n1_; have GW991001 := n2_; have GE991001 := n3_; clear n0_ n1_ n2_ n3_; clear hb hbox hg; have hcz3_0 : w2.cell? ⟨gb991001, 0, none⟩ = some (.slice A0_0 l0_0.length c0_0) := (blk_cell BK991001.out 0).trans rfl; have hcz3_1 : w2.cell? ⟨gb991001, 1, none⟩ = some (.slice A0_1 l0_1.length c0_1) := (blk_cell BK991001.out 1).trans rfl; have hfz3_0 := blk_frozen BK991001.out 0; have hfz3_1 := blk_frozen BK991001.out 1) | ((with_reducible refine gate_dst (N := 13) rfl ?_); refine Kd.R_lit (Kd.int .i64) _ 3 ?hg (N := 13) ?hd (xs := ([] : List Int)) (inner := []) (ok := fun _ => True) (okp := fun _ => True) ?hr ?hp (fun _ hk => hk) trivial (Below.refl _ _) (Nat.le_refl _) (by simp) ?_; (case hd => rfl); (case hg => rfl); (case hr => first | (go_simp; done) | (go_simp; rfl)); (case hp => exact (Reps.none _ _)); intro v991003 w4 ho5 hb hg_ hnew_; clear hg_ hnew_; (first | rw [← Ny991002.out] at ho5 | (simp only [Int.reduceToNat] at ho5; rw [← Ny991002.out] at ho5)); have n0_ := Aside0.mk (Kd.R_lower ho5 (below_size (by repeat (first | (with_reducible first | exact HB.out | apply below_alloc | apply pw_below_drewN | apply below_drew1 | refine below_set ?_ GE991001.out) | exact HB.out)))); have n1_ := Aside0.mk (blk_below (g := gb991001) (o := .cells #[.slice A0_0 l0_0.length c0_0, .slice A0_1 l0_1.length c0_1] 30 (0, 0)) (by (with_reducible repeat (first | refine blk_drewN ?_ _ | refine blk_drew ?_ | refine blk_alloc ?_ _)); exact BK991001.out) hb); have n2_ := Aside0.mk (below_step (by repeat (first | (with_reducible first | exact HB.out | apply below_alloc | apply pw_below_drewN | apply below_drew1 | refine below_set ?_ GE991001.out) | exact HB.out)) hb); clear BK991001; clear HB; have HO991004 := n0_; have BK991001 := n1_; have HB := n2_; clear n0_ n1_ n2_; clear hb ho5))
 go_loopg [4, 5] k (fun kq v4 v5 w' => ∃ (x4_1 : List Int) (x5_1 : Int), v5 = .int .i64 x5_1 ∧ Aside0 (spec_l06Parts.l0 kq (l0_0.length : Int) x4_1 x5_1 l0_0 l0_1 = some r) ∧ Aside0 (kq ≤ k) ∧ Aside0 (Kd.R (Kd.int .i64) 3 w' w.heap.size (fun _ => True) v4 x4_1) ∧ Aside0 (w'.heap[gb991001]? = some (.cells #[(.slice A0_0 l0_0.length c0_0), (.slice A0_1 l0_1.length c0_1)] 30 (0, 0))) ∧ Aside0 (Below w.heap.size w w'))
 case atStart => exact ⟨(y991002), (0), (by first | rfl | (simp; done) | (simp [*]; done)), H', ⟨Nat.le_refl _⟩, ⟨by (with_reducible repeat (first | apply Kd.R_alloc | apply Kd.R_drewN | apply Kd.R_drew)); exact HO991004.out⟩, ⟨by (with_reducible repeat (first | refine blk_drewN ?_ _ | refine blk_drew ?_ | refine blk_alloc ?_ _)); exact BK991001.out⟩, ⟨by repeat (first | (with_reducible first | exact HB.out | apply below_alloc | apply pw_below_drewN | apply below_drew1 | refine below_set ?_ GE991001.out) | exact HB.out)⟩⟩
 case round =>
  clear H'
  try clear p2
  try clear hcz3_0
  try clear hcz3_1
  try clear hfz3_0
  try clear hfz3_1
  obtain ⟨x4_1, x5_1, rfl, HA, HK1, HO_4, BK991001, HB⟩ := hrel
  cases gk with
  | zero => exact absurd HA.out (by simp [spec_l06Parts.l0])
  | succ k1 =>
   have H := HA.out
   clear HA
   simp only [spec_l06Parts.l0] at H
   by_cases c6 : x5_1 < (wrap64 ((l0_0.length : Int) + (l0_1.length : Int)))
   ·rw [if_pos c6] at H
    have c6b0 : decide (x5_1 < (wrap64 ((l0_0.length : Int) + (l0_1.length : Int)))) = true := decide_eq_true c6
    clear c6
    by_cases c7 : x4_1.length < 17592186044416
    rotate_left
    ·rw [if_neg c7] at H
     exact absurd H (by simp)
    rw [if_pos c7] at H
    have LMc7 := Aside0.mk c7
    clear c7
    obtain ⟨y991005, hy991005⟩ : ∃ y_ : List Int, y_ = (x4_1 ++ [x5_1]) := ⟨_, rfl⟩
    replace H : (spec_l06Parts.l0 k1 (l0_0.length : Int) y991005 (wrap64 (x5_1 + 1)) l0_0 l0_1) = some r := by first | (rw [hy991005]; with_reducible exact H) | (have H2_ := (Option.bind_some _ _).symm.trans H; rw [hy991005]; with_reducible exact H2_) | (have H2_ := (Option.bind_some _ _).symm.trans H; with_reducible exact H2_) | with_reducible exact H | (rw [hy991005]; exact H) | exact H
    have Ny991005 := Aside0.mk hy991005
    clear hy991005
    have H' := Aside0.mk H
    clear H
    have hcz8_0 : wr.cell? ⟨gb991001, 0, none⟩ = some (.slice A0_0 l0_0.length c0_0) := (blk_cell BK991001.out 0).trans rfl
    have hcz8_1 : wr.cell? ⟨gb991001, 1, none⟩ = some (.slice A0_1 l0_1.length c0_1) := (blk_cell BK991001.out 1).trans rfl
    have hfz8_0 := blk_frozen BK991001.out 0
    have hfz8_1 := blk_frozen BK991001.out 1
    go_wp2_with (first | ((with_reducible refine gate_builtin (b := .append) (xs := #[.tmp 23, .tmp 25]) rfl ?_); at_builtin; refine Kd.R_append (Kd.int .i64) (w0 := w) w.heap.size rfl (.tmp 23) (.tmp 25) 72 3 (.int .i64 0) 8 rfl Try.underlying72 info3 rfl (by decide) (by omega) u4 x4_1 x5_1 [.int .i64 x5_1] (fun _ => True) (fun _ => False) rfl rfl ?aP (fun _ hk => hk.elim) ?aF ?aO ?aB ?aS ?aL ?_; (case aP => exact rfl); (case aB => exact (by repeat (first | (with_reducible first | exact HB.out | apply below_alloc | apply pw_below_drewN | apply below_drew1 | refine below_set ?_ GE991001.out) | exact HB.out))); (case aF => exact (fun _ _ => trivial)); (case aO => exact (by (with_reducible repeat (first | apply Kd.R_alloc | apply Kd.R_drewN | apply Kd.R_drew)); exact HO_4.out)); (case aS => exact (below_size (by repeat (first | (with_reducible first | exact HB.out | apply below_alloc | apply pw_below_drewN | apply below_drew1 | refine below_set ?_ GE991001.out) | exact HB.out)))); (case aL => have := LMc7.out; omega); intro v991006 w9 ho hb hg hat; rw [← Ny991005.out] at ho; have n0_ := Aside0.mk (blk_grown (g := gb991001) (o := .cells #[.slice A0_0 l0_0.length c0_0, .slice A0_1 l0_1.length c0_1] 30 (0, 0)) (by (with_reducible repeat (first | refine blk_drewN ?_ _ | refine blk_drew ?_ | refine blk_alloc ?_ _)); exact BK991001.out) hg (Kd.R_ne HO_4.out BK991001.out (by decide))); have n1_ := Aside0.mk (hb); have n2_ := Aside0.mk (ho); clear BK991001; clear HB; clear HO_4; have BK991001 := n0_; have HB := n1_; have HO991007 := n2_; clear n0_ n1_ n2_; clear ho hb hg hat))
    go_roundg k1
    case measure => have := HK1.out; omega
    case rel => exact ⟨(y991005), (wrap64 (x5_1 + 1)), (by first | rfl | (simp; done) | (simp [*]; done)), H', ⟨by have := HK1.out; omega⟩, ⟨by (with_reducible repeat (first | apply Kd.R_alloc | apply Kd.R_drewN | apply Kd.R_drew)); exact HO991007.out⟩, ⟨by (with_reducible repeat (first | refine blk_drewN ?_ _ | refine blk_drew ?_ | refine blk_alloc ?_ _)); exact BK991001.out⟩, ⟨by repeat (first | (with_reducible first | exact HB.out | apply below_alloc | apply pw_below_drewN | apply below_drew1 | refine below_set ?_ GE991001.out) | exact HB.out)⟩⟩
   rw [if_neg c6] at H
   have c6b0 : decide (x5_1 < (wrap64 ((l0_0.length : Int) + (l0_1.length : Int)))) = false := decide_eq_false c6
   clear c6
   have H' := Aside0.mk H
   clear H
   have hcz10_0 : wr.cell? ⟨gb991001, 0, none⟩ = some (.slice A0_0 l0_0.length c0_0) := (blk_cell BK991001.out 0).trans rfl
   have hcz10_1 : wr.cell? ⟨gb991001, 1, none⟩ = some (.slice A0_1 l0_1.length c0_1) := (blk_cell BK991001.out 1).trans rfl
   have hfz10_0 := blk_frozen BK991001.out 0
   have hfz10_1 := blk_frozen BK991001.out 1
   go_wp2
   go_loopg [6] k1 (fun kq v6 w' => ∃ (x4_2 : List Int) (x6_2 : Bool), v6 = .bool x6_2 ∧ Aside0 (spec_l06Parts.l1 kq x4_2 x6_2 l0_0 l0_1 = some r) ∧ Aside0 (kq ≤ k1) ∧ Aside0 (Kd.R (Kd.int .i64) 3 w' w.heap.size (fun _ => True) u4 x4_2) ∧ Aside0 (w'.heap[gb991001]? = some (.cells #[(.slice A0_0 l0_0.length c0_0), (.slice A0_1 l0_1.length c0_1)] 30 (0, 0))) ∧ Aside0 (Below w.heap.size w w'))
   case atStart => exact ⟨(x4_1), (true), (by first | rfl | (simp; done) | (simp [*]; done)), H', ⟨Nat.le_refl _⟩, ⟨by (with_reducible repeat (first | apply Kd.R_alloc | apply Kd.R_drewN | apply Kd.R_drew)); exact HO_4.out⟩, ⟨by (with_reducible repeat (first | refine blk_drewN ?_ _ | refine blk_drew ?_ | refine blk_alloc ?_ _)); exact BK991001.out⟩, ⟨by repeat (first | (with_reducible first | exact HB.out | apply below_alloc | apply pw_below_drewN | apply below_drew1 | refine below_set ?_ GE991001.out) | exact HB.out)⟩⟩
   case round =>
    clear H'
    try clear p2
    try clear c6
    try clear c6b0
    try clear p6
    try clear c7
    try clear c9
    try clear hcz10_0
    try clear hcz10_1
    try clear hcz3_0
    try clear hcz3_1
    try clear hcz8_0
    try clear hcz8_1
    try clear hfz10_0
    try clear hfz10_1
    try clear hfz3_0
    try clear hfz3_1
    try clear hfz8_0
    try clear hfz8_1
    try clear p2
    obtain ⟨x4_2, x6_2, rfl, HA, HK2, HO_4, BK991001, HB⟩ := hrel
    cases gk with
    | zero => exact absurd HA.out (by simp [spec_l06Parts.l1])
    | succ k2 =>
     have H := HA.out
     clear HA
     simp only [spec_l06Parts.l1] at H
     by_cases c11 : x6_2 = true
     rotate_left
     ·replace c11 := Bool.eq_false_iff.mpr c11
      subst c11
      have H1 : (some x4_2) = some r := by rw [if_neg (show ¬ (false = true) by decide)] at H; exact H
      clear H
      have H := H1
      clear H1
      obtain rfl := Option.some.inj H
      go_wp2
      go_ret
      exact ⟨_, by first | rfl | (simp [errW_none, errW_some] <;> rfl) | (simp [*, errW_none, errW_some] <;> rfl), by (with_reducible repeat (first | apply Kd.R_alloc | apply Kd.R_drewN | apply Kd.R_drew)); exact HO_4.out, by repeat (first | (with_reducible first | exact HB.out | apply below_alloc | apply pw_below_drewN | apply below_drew1 | refine below_set ?_ GE991001.out) | exact HB.out)⟩
     subst c11
     have H1 : (spec_l06Parts.l2 k2 x4_2 false 0 l0_0 l0_1) = some r := by rw [if_pos rfl] at H; exact H
     clear H
     have H := H1
     clear H1
     have H' := Aside0.mk H
     clear H
     go_wp2
     go_loopg [6, 7] k2 (fun kq v6 v7 w' => ∃ (x4_3 : List Int) (x6_3 : Bool) (x7_3 : Int), v6 = .bool x6_3 ∧ v7 = .int .i64 x7_3 ∧ Aside0 (spec_l06Parts.l2 kq x4_3 x6_3 x7_3 l0_0 l0_1 = some r) ∧ Aside0 (kq ≤ k2) ∧ Aside0 (Kd.R (Kd.int .i64) 3 w' w.heap.size (fun _ => True) u4 x4_3) ∧ Aside0 (w'.heap[gb991001]? = some (.cells #[(.slice A0_0 l0_0.length c0_0), (.slice A0_1 l0_1.length c0_1)] 30 (0, 0))) ∧ Aside0 (Below w.heap.size w w'))
     case atStart => exact ⟨(x4_2), (false), (0), (by first | rfl | (simp; done) | (simp [*]; done)), (by first | rfl | (simp; done) | (simp [*]; done)), H', ⟨Nat.le_refl _⟩, ⟨by (with_reducible repeat (first | apply Kd.R_alloc | apply Kd.R_drewN | apply Kd.R_drew)); exact HO_4.out⟩, ⟨by (with_reducible repeat (first | refine blk_drewN ?_ _ | refine blk_drew ?_ | refine blk_alloc ?_ _)); exact BK991001.out⟩, ⟨by repeat (first | (with_reducible first | exact HB.out | apply below_alloc | apply pw_below_drewN | apply below_drew1 | refine below_set ?_ GE991001.out) | exact HB.out)⟩⟩
     case round =>
      clear H'
      try clear c1
      try clear p2
      try clear c6
      try clear c6b0
      try clear p6
      try clear c7
      try clear c9
      try clear c11
      try clear hcz10_0
      try clear hcz10_1
      try clear hcz3_0
      try clear hcz3_1
      try clear hcz8_0
      try clear hcz8_1
      try clear hfz10_0
      try clear hfz10_1
      try clear hfz3_0
      try clear hfz3_1
      try clear hfz8_0
      try clear hfz8_1
      try clear p2
      try clear p6
      obtain ⟨x4_3, x6_3, x7_3, rfl, rfl, HA, HK3, HO_4, BK991001, HB⟩ := hrel
      cases gk with
      | zero => exact absurd HA.out (by simp [spec_l06Parts.l2])
      | succ k3 =>
       have H := HA.out
       clear HA
       simp only [spec_l06Parts.l2] at H
       by_cases c12 : x7_3 < (x4_3.length : Int)
       rotate_left
       ·rw [if_neg c12] at H
        have c12b0 : decide (x7_3 < (x4_3.length : Int)) = false := decide_eq_false c12
        clear c12
        have H' := Aside0.mk H
        clear H
        obtain ⟨Ao43, co43, eo43⟩ := Kd.R_slice HO_4.out
        subst eo43
        go_wp2
        go_roundg k3
        case measure => have := HK1.out; have := HK2.out; have := HK3.out; omega
        case rel => exact ⟨(x4_3), (x6_3), (by first | rfl | (simp; done) | (simp [*]; done)), H', ⟨by have := HK1.out; have := HK2.out; have := HK3.out; omega⟩, ⟨by (with_reducible repeat (first | apply Kd.R_alloc | apply Kd.R_drewN | apply Kd.R_drew)); exact HO_4.out⟩, ⟨by (with_reducible repeat (first | refine blk_drewN ?_ _ | refine blk_drew ?_ | refine blk_alloc ?_ _)); exact BK991001.out⟩, ⟨by repeat (first | (with_reducible first | exact HB.out | apply below_alloc | apply pw_below_drewN | apply below_drew1 | refine below_set ?_ GE991001.out) | exact HB.out)⟩⟩
       rw [if_pos c12] at H
       have c12b0 : decide (x7_3 < (x4_3.length : Int)) = true := decide_eq_true c12
       clear c12
       have H' := Aside0.mk H
       clear H
       obtain ⟨Ao13, co13, eo13⟩ := Kd.R_slice HO_4.out
       subst eo13
       go_wp2
       go_loopg [6, 8] k3 (fun kq v6 v8 w' => ∃ (x4_4 : List Int) (x6_4 : Bool) (x8_4 : Int), v6 = .bool x6_4 ∧ v8 = .int .i64 x8_4 ∧ Aside0 (spec_l06Parts.l3 kq x4_4 x6_4 x7_3 x8_4 l0_0 l0_1 = some r) ∧ Aside0 (kq ≤ k3) ∧ Aside0 (Kd.R (Kd.int .i64) 3 w' w.heap.size (fun _ => True) (.slice Ao13 x4_3.length co13) x4_4) ∧ Aside0 (w'.heap[gb991001]? = some (.cells #[(.slice A0_0 l0_0.length c0_0), (.slice A0_1 l0_1.length c0_1)] 30 (0, 0))) ∧ Aside0 (Below w.heap.size w w'))
       case atStart => exact ⟨(x4_3), (x6_3), (0), (by first | rfl | (simp; done) | (simp [*]; done)), (by first | rfl | (simp; done) | (simp [*]; done)), H', ⟨Nat.le_refl _⟩, ⟨by (with_reducible repeat (first | apply Kd.R_alloc | apply Kd.R_drewN | apply Kd.R_drew)); exact HO_4.out⟩, ⟨by (with_reducible repeat (first | refine blk_drewN ?_ _ | refine blk_drew ?_ | refine blk_alloc ?_ _)); exact BK991001.out⟩, ⟨by repeat (first | (with_reducible first | exact HB.out | apply below_alloc | apply pw_below_drewN | apply below_drew1 | refine below_set ?_ GE991001.out) | exact HB.out)⟩⟩
       case round =>
        clear H'
        try clear c1
        try clear p2
        try clear c6
        try clear c6b0
        try clear p6
        try clear c7
        try clear c9
        try clear c11
        try clear c12
        try clear c12b0
        try clear hcz10_0
        try clear hcz10_1
        try clear hcz3_0
        try clear hcz3_1
        try clear hcz8_0
        try clear hcz8_1
        try clear hfz10_0
        try clear hfz10_1
        try clear hfz3_0
        try clear hfz3_1
        try clear hfz8_0
        try clear hfz8_1
        try clear p2
        try clear p6
        obtain ⟨x4_4, x6_4, x8_4, rfl, rfl, HA, HK4, HO_4, BK991001, HB⟩ := hrel
        have hl4_4 := (Kd.R_reads' HO_4.out).1
        rw [hl4_4] at HO_4
        (try simp only [hl4_4])
        (try simp only [hl4_4] at BK991001)
        cases gk with
        | zero => exact absurd HA.out (by simp [spec_l06Parts.l3])
        | succ k4 =>
         have H := HA.out
         clear HA
         simp only [spec_l06Parts.l3] at H
         by_cases c14 : x8_4 < x7_3
         rotate_left
         ·rw [if_neg c14] at H
          have c14b0 : decide (x8_4 < x7_3) = false := decide_eq_false c14
          clear c14
          have H' := Aside0.mk H
          clear H
          go_wp2
          (try simp only [← hl4_4])
          go_roundg k4
          case measure => have := HK1.out; have := HK2.out; have := HK3.out; have := HK4.out; omega
          case rel => exact ⟨(x4_4), (x6_4), (wrap64 (x7_3 + 1)), (by first | rfl | (simp; done) | (simp [*]; done)), (by first | rfl | (simp; done) | (simp [*]; done)), H', ⟨by have := HK1.out; have := HK2.out; have := HK3.out; have := HK4.out; omega⟩, ⟨by (try simp only [hl4_4]); (with_reducible repeat (first | apply Kd.R_alloc | apply Kd.R_drewN | apply Kd.R_drew)); exact HO_4.out⟩, ⟨by (try simp only [hl4_4]); (with_reducible repeat (first | refine blk_drewN ?_ _ | refine blk_drew ?_ | refine blk_alloc ?_ _)); exact BK991001.out⟩, ⟨by repeat (first | (with_reducible first | exact HB.out | apply below_alloc | apply pw_below_drewN | apply below_drew1 | refine below_set ?_ GE991001.out) | exact HB.out)⟩⟩
         rw [if_pos c14] at H
         have c14b0 : decide (x8_4 < x7_3) = true := decide_eq_true c14
         clear c14
         by_cases c15 : 0 ≤ x7_3
         rotate_left
         ·rw [if_neg c15] at H
          exact absurd H (by simp)
         rw [if_pos c15] at H
         have c15b0 : decide (0 ≤ x7_3) = true := decide_eq_true c15
         clear c15
         by_cases c16 : x7_3 < (x4_4.length : Int)
         rotate_left
         ·rw [if_neg c16] at H
          exact absurd H (by simp)
         rw [if_pos c16] at H
         have c16b0 : decide (x7_3 < (x4_4.length : Int)) = true := decide_eq_true c16
         clear c16
         by_cases c17 : 0 ≤ x8_4
         rotate_left
         ·rw [if_neg c17] at H
          exact absurd H (by simp)
         rw [if_pos c17] at H
         have c17b0 : decide (0 ≤ x8_4) = true := decide_eq_true c17
         clear c17
         by_cases c18 : x8_4 < (x4_4.length : Int)
         rotate_left
         ·rw [if_neg c18] at H
          exact absurd H (by simp)
         rw [if_pos c18] at H
         have c18b0 : decide (x8_4 < (x4_4.length : Int)) = true := decide_eq_true c18
         clear c18
         by_cases c19 : (rd x4_4 x7_3) = (rd x4_4 x8_4)
         ·rw [if_pos c19] at H
          have c19b0 : ((rd x4_4 x7_3) == (rd x4_4 x8_4)) = true := beq_iff_eq.mpr c19
          have c19b1 : ((rd x4_4 x7_3) != (rd x4_4 x8_4)) = false := bne_eq_false_iff_eq.mpr c19
          clear c19
          have H' := Aside0.mk H
          clear H
          try go_wp2
          have n0_ := Aside0.mk (Kd.R_drew HO_4.out)
          have n1_ := Aside0.mk (blk_drew BK991001.out)
          have n2_ := Aside0.mk (below_drew1 HB.out)
          clear HO_4
          clear BK991001
          clear HB
          have HO_4 := n0_
          have BK991001 := n1_
          have HB := n2_
          clear n0_ n1_ n2_
          have p991008 : 0 ≤ (x7_3 : Int) := of_decide_eq_true (by first | (with_reducible assumption) | assumption)
          have q991008 : x7_3 < (x4_4.length : Int) := of_decide_eq_true (by first | (with_reducible assumption) | assumption)
          obtain ⟨ad991008, e991008, hx991008_0⟩ := Kd.at_int (Kd.R_reads' HO_4.out).2.2 x7_3 p991008 q991008
          cases e991008
          replace p991008 := eq_true p991008
          replace q991008 := eq_true q991008
          have p991009 : 0 ≤ (x8_4 : Int) := of_decide_eq_true (by first | (with_reducible assumption) | assumption)
          have q991009 : x8_4 < (x4_4.length : Int) := of_decide_eq_true (by first | (with_reducible assumption) | assumption)
          obtain ⟨ad991009, e991009, hx991009_0⟩ := Kd.at_int (Kd.R_reads' HO_4.out).2.2 x8_4 p991009 q991009
          obtain rfl : ad991008 = ad991009 := (by injection e991009)
          replace p991009 := eq_true p991009
          replace q991009 := eq_true q991009
          refine start_ (n := 19) (S := fun w' => w'.cell? (ad991008.add (x7_3).toNat) = some (.int .i64 (rd x4_4 x7_3)) ∧ w'.cell? (ad991008.add (x8_4).toNat) = some (.int .i64 (rd x4_4 x8_4))) (ds := []) bqFgT_0 (by kernel_rfl) rfl rfl ⟨hx991008_0, hx991009_0⟩ (fun hHeld => ?_); refine with_tabW spec_l06Parts.tab16 spec_l06Parts.bits16 (fun HT_ HW_ => ?_)
          generalize wr.drew = w20 at HO_4 BK991001 HB hx991008_0 hx991009_0 hHeld ⊢
          refine pure_ (i := 0) (N := some 39) (v := ?_) (a' := ?_) bqFgT_1 rfl rfl (any_of HT_.out (by kernel_rfl)) (fun _ _ _ h => h) (Or.inl ⟨by rfl, ?_⟩) ?_ ?_
          rotate_left
          ·intro w'
           go_simp
           with_reducible rfl
          rotate_left
          ·simp only [Act.put, List.setIfInBounds_toArray, List.set_cons_zero, List.set_cons_succ, i64_w, i32_w]
           rfl
          refine pure_ (i := 1) (N := some 40) (v := ?_) (a' := ?_) bqFgT_2 rfl rfl (any_of HT_.out (by kernel_rfl)) (fun _ _ _ h => h) (Or.inl ⟨by rfl, ?_⟩) ?_ ?_
          rotate_left
          ·intro w'
           go_simp
           with_reducible rfl
          rotate_left
          ·simp only [Act.put, List.setIfInBounds_toArray, List.set_cons_zero, List.set_cons_succ, i64_w, i32_w]
           rfl
          refine pure_ (i := 2) (N := some 41) (v := ?_) (a' := ?_) bqFgT_3 rfl rfl (any_of HT_.out (by kernel_rfl)) (fun _ _ _ h => h) (Or.inl ⟨by rfl, ?_⟩) ?_ ?_
          rotate_left
          ·intro w'
           go_simp
           with_reducible rfl
          rotate_left
          ·simp only [Act.put, List.setIfInBounds_toArray, List.set_cons_zero, List.set_cons_succ, i64_w, i32_w]
           rfl
          refine pure_ (i := 4) (N := some 43) (v := ?_) (a' := ?_) bqFgT_4 rfl rfl (any_of HT_.out (by kernel_rfl)) (fun _ _ _ h => h) (Or.inl ⟨by rfl, ?_⟩) ?_ ?_
          rotate_left
          ·intro w'
           go_simp
           with_reducible rfl
          rotate_left
          ·simp only [Act.put, List.setIfInBounds_toArray, List.set_cons_zero, List.set_cons_succ, i64_w, i32_w]
           rfl
          refine pure_ (i := 5) (N := some 44) (v := ?_) (a' := ?_) bqFgT_5 rfl rfl (any_of HT_.out (by kernel_rfl)) (fun _ _ _ h => h) (Or.inl ⟨by rfl, ?_⟩) ?_ ?_
          rotate_left
          ·intro w'
           go_simp
           with_reducible rfl
          rotate_left
          ·simp only [Act.put, List.setIfInBounds_toArray, List.set_cons_zero, List.set_cons_succ, i64_w, i32_w]
           rfl
          refine pure_ (i := 6) (N := some 45) (v := ?_) (a' := ?_) bqFgT_6 rfl rfl (any_of HT_.out (by kernel_rfl)) (fun _ _ _ h => h) (Or.inl ⟨by rfl, ?_⟩) ?_ ?_
          rotate_left
          ·intro w'
           go_simp
           with_reducible rfl
          rotate_left
          ·simp only [Act.put, List.setIfInBounds_toArray, List.set_cons_zero, List.set_cons_succ, i64_w, i32_w]
           rfl
          refine take_ (i := 3) (N := some 42) (v := ?_) (a' := ?_) bqFgT_7 rfl rfl (take_ofW HT_.out HW_.out (by kernel_rfl)) (fun _ _ _ h => h) (Or.inl ⟨by rfl, ?_⟩) hHeld ?_ ?_
          rotate_left
          ·rintro w' ⟨s0, s1⟩
           go_simp
           with_reducible rfl
          rotate_left
          ·simp only [Act.put, List.setIfInBounds_toArray, List.set_cons_zero, List.set_cons_succ, i64_w, i32_w]
           rfl
          refine take_ (i := 7) (N := some 46) (v := ?_) (a' := ?_) bqFgT_8 rfl rfl (take_ofW HT_.out HW_.out (by kernel_rfl)) (fun _ _ _ h => h) (Or.inl ⟨by rfl, ?_⟩) hHeld ?_ ?_
          rotate_left
          ·rintro w' ⟨s0, s1⟩
           go_simp
           with_reducible rfl
          rotate_left
          ·simp only [Act.put, List.setIfInBounds_toArray, List.set_cons_zero, List.set_cons_succ, i64_w, i32_w]
           rfl
          refine pure_ (i := 8) (N := some 47) (v := ?_) (a' := ?_) bqFgT_9 rfl rfl (any_of HT_.out (by kernel_rfl)) (fun _ _ _ h => h) (Or.inl ⟨by rfl, ?_⟩) ?_ ?_
          rotate_left
          ·intro w'
           go_simp
           with_reducible rfl
          rotate_left
          ·simp only [Act.put, List.setIfInBounds_toArray, List.set_cons_zero, List.set_cons_succ, i64_w, i32_w]
           rfl
          refine pure_ (i := 9) (N := some 48) (v := ?_) (a' := ?_) bqFgT_10 rfl rfl (any_of HT_.out (by kernel_rfl)) (fun _ _ _ h => h) (Or.inl ⟨by rfl, ?_⟩) ?_ ?_
          rotate_left
          ·intro w'
           go_simp
           with_reducible rfl
          rotate_left
          ·simp only [Act.put, List.setIfInBounds_toArray, List.set_cons_zero, List.set_cons_succ, i64_w, i32_w]
           rfl
          refine pure_ (i := 10) (N := some 49) (v := undef) (a' := ?_) bqFgT_11 rfl rfl (any_of HT_.out (by kernel_rfl)) (fun _ _ _ h => h) (Or.inr ⟨by rfl, rfl⟩) ?_ ?_
          rotate_left
          ·simp only [Act.put, List.setIfInBounds_toArray, List.set_cons_zero, List.set_cons_succ, i64_w, i32_w]
           rfl
          refine pure_ (i := 11) (N := some 50) (v := undef) (a' := ?_) bqFgT_12 rfl rfl (any_of HT_.out (by kernel_rfl)) (fun _ _ _ h => h) (Or.inr ⟨by rfl, rfl⟩) ?_ ?_
          rotate_left
          ·simp only [Act.put, List.setIfInBounds_toArray, List.set_cons_zero, List.set_cons_succ, i64_w, i32_w]
           rfl
          refine pure_ (i := 12) (N := some 51) (v := undef) (a' := ?_) bqFgT_13 rfl rfl (any_of HT_.out (by kernel_rfl)) (fun _ _ _ h => h) (Or.inr ⟨by rfl, rfl⟩) ?_ ?_
          rotate_left
          ·simp only [Act.put, List.setIfInBounds_toArray, List.set_cons_zero, List.set_cons_succ, i64_w, i32_w]
           rfl
          refine pure_ (i := 13) (N := some 52) (v := undef) (a' := ?_) bqFgT_14 rfl rfl (any_of HT_.out (by kernel_rfl)) (fun _ _ _ h => h) (Or.inr ⟨by rfl, rfl⟩) ?_ ?_
          rotate_left
          ·simp only [Act.put, List.setIfInBounds_toArray, List.set_cons_zero, List.set_cons_succ, i64_w, i32_w]
           rfl
          refine pure_ (i := 14) (N := some 53) (v := undef) (a' := ?_) bqFgT_15 rfl rfl (any_of HT_.out (by kernel_rfl)) (fun _ _ _ h => h) (Or.inr ⟨by rfl, rfl⟩) ?_ ?_
          rotate_left
          ·simp only [Act.put, List.setIfInBounds_toArray, List.set_cons_zero, List.set_cons_succ, i64_w, i32_w]
           rfl
          refine pure_ (i := 15) (N := some 54) (v := undef) (a' := ?_) bqFgT_16 rfl rfl (any_of HT_.out (by kernel_rfl)) (fun _ _ _ h => h) (Or.inr ⟨by rfl, rfl⟩) ?_ ?_
          rotate_left
          ·simp only [Act.put, List.setIfInBounds_toArray, List.set_cons_zero, List.set_cons_succ, i64_w, i32_w]
           rfl
          refine pure_ (i := 16) (N := some 55) (v := undef) (a' := ?_) bqFgT_17 rfl rfl (any_of HT_.out (by kernel_rfl)) (fun _ _ _ h => h) (Or.inr ⟨by rfl, rfl⟩) ?_ ?_
          rotate_left
          ·simp only [Act.put, List.setIfInBounds_toArray, List.set_cons_zero, List.set_cons_succ, i64_w, i32_w]
           rfl
          refine pure_ (i := 17) (N := some 56) (v := undef) (a' := ?_) bqFgT_18 rfl rfl (any_of HT_.out (by kernel_rfl)) (fun _ _ _ h => h) (Or.inr ⟨by rfl, rfl⟩) ?_ ?_
          rotate_left
          ·simp only [Act.put, List.setIfInBounds_toArray, List.set_cons_zero, List.set_cons_succ, i64_w, i32_w]
           rfl
          refine pure_ (i := 18) (N := some 57) (v := ?_) (a' := ?_) bqFgT_19 rfl rfl (any_of HT_.out (by kernel_rfl)) (fun _ _ _ h => h) (Or.inl ⟨by rfl, ?_⟩) ?_ ?_
          rotate_left
          ·intro w'
           go_simp
           with_reducible rfl
          rotate_left
          ·simp only [Act.put, List.setIfInBounds_toArray, List.set_cons_zero, List.set_cons_succ, i64_w, i32_w]
           rfl
          refine done_ (done_of HT_.out (by kernel_rfl)) ?_
          try go_wp2
          (try simp only [← hl4_4])
          go_roundg k4
          case measure => have := HK1.out; have := HK2.out; have := HK3.out; have := HK4.out; omega
          case rel => exact ⟨(x4_4), (x6_4), (wrap64 (x8_4 + 1)), (by first | rfl | (simp; done) | (simp [*]; done)), (by first | rfl | (simp; done) | (simp [*]; done)), H', ⟨by have := HK1.out; have := HK2.out; have := HK3.out; have := HK4.out; omega⟩, ⟨by (try simp only [hl4_4]); (with_reducible repeat (first | apply Kd.R_alloc | apply Kd.R_drewN | apply Kd.R_drew)); exact HO_4.out⟩, ⟨by (try simp only [hl4_4]); (with_reducible repeat (first | refine blk_drewN ?_ _ | refine blk_drew ?_ | refine blk_alloc ?_ _)); exact BK991001.out⟩, ⟨by repeat (first | (with_reducible first | exact HB.out | apply below_alloc | apply pw_below_drewN | apply below_drew1 | refine below_set ?_ GE991001.out) | exact HB.out)⟩⟩
         rw [if_neg c19] at H
         have c19b0 : ((rd x4_4 x7_3) == (rd x4_4 x8_4)) = false := beq_eq_false_iff_ne.mpr c19
         have c19b1 : ((rd x4_4 x7_3) != (rd x4_4 x8_4)) = true := bne_iff_ne.mpr c19
         replace H := Option.bind_eq_some_iff.mp H
         obtain ⟨t991010, A210, H⟩ := H
         replace H : ((spec_l06Edges.f l0_0 l0_1 x8_4).bind fun t991013 => ((spec_l06Joined.f k4 t991010 t991013).bind fun t991016 => (if t991016 = true then (spec_l06Parts.l3 k4 ((x4_4.set (x7_3 : Int).toNat (mn (rd x4_4 x7_3) (rd x4_4 x8_4))).set (x8_4 : Int).toNat (mn (rd x4_4 x7_3) (rd x4_4 x8_4))) true x7_3 (wrap64 (x8_4 + 1)) l0_0 l0_1) else (spec_l06Parts.l3 k4 x4_4 x6_4 x7_3 (wrap64 (x8_4 + 1)) l0_0 l0_1)))) = some r := H
         have A21 := Aside0.mk A210
         clear A210
         replace H := Option.bind_eq_some_iff.mp H
         obtain ⟨t991013, A220, H⟩ := H
         replace H : ((spec_l06Joined.f k4 t991010 t991013).bind fun t991016 => (if t991016 = true then (spec_l06Parts.l3 k4 ((x4_4.set (x7_3 : Int).toNat (mn (rd x4_4 x7_3) (rd x4_4 x8_4))).set (x8_4 : Int).toNat (mn (rd x4_4 x7_3) (rd x4_4 x8_4))) true x7_3 (wrap64 (x8_4 + 1)) l0_0 l0_1) else (spec_l06Parts.l3 k4 x4_4 x6_4 x7_3 (wrap64 (x8_4 + 1)) l0_0 l0_1))) = some r := H
         have A22 := Aside0.mk A220
         clear A220
         replace H := Option.bind_eq_some_iff.mp H
         obtain ⟨t991016, A230, H⟩ := H
         replace H : (if t991016 = true then (spec_l06Parts.l3 k4 ((x4_4.set (x7_3 : Int).toNat (mn (rd x4_4 x7_3) (rd x4_4 x8_4))).set (x8_4 : Int).toNat (mn (rd x4_4 x7_3) (rd x4_4 x8_4))) true x7_3 (wrap64 (x8_4 + 1)) l0_0 l0_1) else (spec_l06Parts.l3 k4 x4_4 x6_4 x7_3 (wrap64 (x8_4 + 1)) l0_0 l0_1)) = some r := H
         have A23 := Aside0.mk A230
         clear A230
         by_cases c24 : t991016 = true
         rotate_left
         ·replace c24 := Bool.eq_false_iff.mpr c24
          subst c24
          have H1 : (spec_l06Parts.l3 k4 x4_4 x6_4 x7_3 (wrap64 (x8_4 + 1)) l0_0 l0_1) = some r := by rw [if_neg (show ¬ (false = true) by decide)] at H; exact H
          clear H
          have H := H1
          clear H1
          have H' := Aside0.mk H
          clear H
          try go_wp2
          have n0_ := Aside0.mk (Kd.R_drew HO_4.out)
          have n1_ := Aside0.mk (blk_drew BK991001.out)
          have n2_ := Aside0.mk (below_drew1 HB.out)
          clear HO_4
          clear BK991001
          clear HB
          have HO_4 := n0_
          have BK991001 := n1_
          have HB := n2_
          clear n0_ n1_ n2_
          have p991008 : 0 ≤ (x7_3 : Int) := of_decide_eq_true (by first | (with_reducible assumption) | assumption)
          have q991008 : x7_3 < (x4_4.length : Int) := of_decide_eq_true (by first | (with_reducible assumption) | assumption)
          obtain ⟨ad991008, e991008, hx991008_0⟩ := Kd.at_int (Kd.R_reads' HO_4.out).2.2 x7_3 p991008 q991008
          cases e991008
          replace p991008 := eq_true p991008
          replace q991008 := eq_true q991008
          have p991009 : 0 ≤ (x8_4 : Int) := of_decide_eq_true (by first | (with_reducible assumption) | assumption)
          have q991009 : x8_4 < (x4_4.length : Int) := of_decide_eq_true (by first | (with_reducible assumption) | assumption)
          obtain ⟨ad991009, e991009, hx991009_0⟩ := Kd.at_int (Kd.R_reads' HO_4.out).2.2 x8_4 p991009 q991009
          obtain rfl : ad991008 = ad991009 := (by injection e991009)
          replace p991009 := eq_true p991009
          replace q991009 := eq_true q991009
          refine start_ (n := 19) (S := fun w' => w'.cell? ⟨gb991001, 0, none⟩ = some (.slice A0_0 l0_0.length c0_0) ∧ w'.cell? ⟨gb991001, 1, none⟩ = some (.slice A0_1 l0_1.length c0_1) ∧ w'.cell? (ad991008.add (x7_3).toNat) = some (.int .i64 (rd x4_4 x7_3)) ∧ w'.cell? (ad991008.add (x8_4).toNat) = some (.int .i64 (rd x4_4 x8_4))) (ds := []) bqFgT_0 (by kernel_rfl) rfl rfl ⟨(blk_cell BK991001.out 0).trans rfl, (blk_cell BK991001.out 1).trans rfl, hx991008_0, hx991009_0⟩ (fun hHeld => ?_); refine with_tabW spec_l06Parts.tab16 spec_l06Parts.bits16 (fun HT_ HW_ => ?_)
          generalize wr.drew = w38 at HO_4 BK991001 HB hx991008_0 hx991009_0 hHeld ⊢
          refine pure_ (i := 0) (N := some 39) (v := ?_) (a' := ?_) bqFgT_1 rfl rfl (any_of HT_.out (by kernel_rfl)) (fun _ _ _ h => h) (Or.inl ⟨by rfl, ?_⟩) ?_ ?_
          rotate_left
          ·intro w'
           go_simp
           with_reducible rfl
          rotate_left
          ·simp only [Act.put, List.setIfInBounds_toArray, List.set_cons_zero, List.set_cons_succ, i64_w, i32_w]
           rfl
          refine pure_ (i := 1) (N := some 40) (v := ?_) (a' := ?_) bqFgT_2 rfl rfl (any_of HT_.out (by kernel_rfl)) (fun _ _ _ h => h) (Or.inl ⟨by rfl, ?_⟩) ?_ ?_
          rotate_left
          ·intro w'
           go_simp
           with_reducible rfl
          rotate_left
          ·simp only [Act.put, List.setIfInBounds_toArray, List.set_cons_zero, List.set_cons_succ, i64_w, i32_w]
           rfl
          refine pure_ (i := 2) (N := some 41) (v := ?_) (a' := ?_) bqFgT_3 rfl rfl (any_of HT_.out (by kernel_rfl)) (fun _ _ _ h => h) (Or.inl ⟨by rfl, ?_⟩) ?_ ?_
          rotate_left
          ·intro w'
           go_simp
           with_reducible rfl
          rotate_left
          ·simp only [Act.put, List.setIfInBounds_toArray, List.set_cons_zero, List.set_cons_succ, i64_w, i32_w]
           rfl
          refine pure_ (i := 4) (N := some 43) (v := ?_) (a' := ?_) bqFgT_4 rfl rfl (any_of HT_.out (by kernel_rfl)) (fun _ _ _ h => h) (Or.inl ⟨by rfl, ?_⟩) ?_ ?_
          rotate_left
          ·intro w'
           go_simp
           with_reducible rfl
          rotate_left
          ·simp only [Act.put, List.setIfInBounds_toArray, List.set_cons_zero, List.set_cons_succ, i64_w, i32_w]
           rfl
          refine pure_ (i := 5) (N := some 44) (v := ?_) (a' := ?_) bqFgT_5 rfl rfl (any_of HT_.out (by kernel_rfl)) (fun _ _ _ h => h) (Or.inl ⟨by rfl, ?_⟩) ?_ ?_
          rotate_left
          ·intro w'
           go_simp
           with_reducible rfl
          rotate_left
          ·simp only [Act.put, List.setIfInBounds_toArray, List.set_cons_zero, List.set_cons_succ, i64_w, i32_w]
           rfl
          refine pure_ (i := 6) (N := some 45) (v := ?_) (a' := ?_) bqFgT_6 rfl rfl (any_of HT_.out (by kernel_rfl)) (fun _ _ _ h => h) (Or.inl ⟨by rfl, ?_⟩) ?_ ?_
          rotate_left
          ·intro w'
           go_simp
           with_reducible rfl
          rotate_left
          ·simp only [Act.put, List.setIfInBounds_toArray, List.set_cons_zero, List.set_cons_succ, i64_w, i32_w]
           rfl
          refine take_ (i := 3) (N := some 42) (v := ?_) (a' := ?_) bqFgT_7 rfl rfl (take_ofW HT_.out HW_.out (by kernel_rfl)) (fun _ _ _ h => h) (Or.inl ⟨by rfl, ?_⟩) hHeld ?_ ?_
          rotate_left
          ·rintro w' ⟨s0, s1, s2, s3⟩
           go_simp
           with_reducible rfl
          rotate_left
          ·simp only [Act.put, List.setIfInBounds_toArray, List.set_cons_zero, List.set_cons_succ, i64_w, i32_w]
           rfl
          refine take_ (i := 7) (N := some 46) (v := ?_) (a' := ?_) bqFgT_8 rfl rfl (take_ofW HT_.out HW_.out (by kernel_rfl)) (fun _ _ _ h => h) (Or.inl ⟨by rfl, ?_⟩) hHeld ?_ ?_
          rotate_left
          ·rintro w' ⟨s0, s1, s2, s3⟩
           go_simp
           with_reducible rfl
          rotate_left
          ·simp only [Act.put, List.setIfInBounds_toArray, List.set_cons_zero, List.set_cons_succ, i64_w, i32_w]
           rfl
          refine pure_ (i := 8) (N := some 47) (v := ?_) (a' := ?_) bqFgT_9 rfl rfl (any_of HT_.out (by kernel_rfl)) (fun _ _ _ h => h) (Or.inl ⟨by rfl, ?_⟩) ?_ ?_
          rotate_left
          ·intro w'
           go_simp
           with_reducible rfl
          rotate_left
          ·simp only [Act.put, List.setIfInBounds_toArray, List.set_cons_zero, List.set_cons_succ, i64_w, i32_w]
           rfl
          refine pure_ (i := 9) (N := some 48) (v := ?_) (a' := ?_) bqFgT_10 rfl rfl (any_of HT_.out (by kernel_rfl)) (fun _ _ _ h => h) (Or.inl ⟨by rfl, ?_⟩) ?_ ?_
          rotate_left
          ·intro w'
           go_simp
           with_reducible rfl
          rotate_left
          ·simp only [Act.put, List.setIfInBounds_toArray, List.set_cons_zero, List.set_cons_succ, i64_w, i32_w]
           rfl
          refine pure_ (i := 11) (N := some 50) (v := ?_) (a' := ?_) bqFgT_20 rfl rfl (any_of HT_.out (by kernel_rfl)) (fun _ _ _ h => h) (Or.inl ⟨by rfl, ?_⟩) ?_ ?_
          rotate_left
          ·intro w'
           go_simp
           with_reducible rfl
          rotate_left
          ·simp only [Act.put, List.setIfInBounds_toArray, List.set_cons_zero, List.set_cons_succ, i64_w, i32_w]
           rfl
          refine pure_ (i := 14) (N := some 53) (v := ?_) (a' := ?_) bqFgT_21 rfl rfl (any_of HT_.out (by kernel_rfl)) (fun _ _ _ h => h) (Or.inl ⟨by rfl, ?_⟩) ?_ ?_
          rotate_left
          ·intro w'
           go_simp
           with_reducible rfl
          rotate_left
          ·simp only [Act.put, List.setIfInBounds_toArray, List.set_cons_zero, List.set_cons_succ, i64_w, i32_w]
           rfl
          refine take_ (i := 10) (N := some 49) (v := ?_) (a' := ?_) bqFgT_22 rfl rfl (take_ofW HT_.out HW_.out (by kernel_rfl)) (fun _ _ _ h => h) (Or.inl ⟨by rfl, ?_⟩) hHeld ?_ ?_
          rotate_left
          ·rintro w' ⟨s0, s1, s2, s3⟩
           go_simp
           with_reducible rfl
          rotate_left
          ·simp only [Act.put, List.setIfInBounds_toArray, List.set_cons_zero, List.set_cons_succ, i64_w, i32_w]
           rfl
          refine take_ (i := 13) (N := some 52) (v := ?_) (a' := ?_) bqFgT_23 rfl rfl (take_ofW HT_.out HW_.out (by kernel_rfl)) (fun _ _ _ h => h) (Or.inl ⟨by rfl, ?_⟩) hHeld ?_ ?_
          rotate_left
          ·rintro w' ⟨s0, s1, s2, s3⟩
           go_simp
           with_reducible rfl
          rotate_left
          ·simp only [Act.put, List.setIfInBounds_toArray, List.set_cons_zero, List.set_cons_succ, i64_w, i32_w]
           rfl
          refine one_ (i := 12) (N := some 51) bqFgT_15 rfl rfl (one_of HT_.out (by kernel_rfl)) (by decide) (fun K hK => ?_)
          refine goes_ Try.func148 (by kernel_rfl) rfl #[.agg #[.slice A0_0 l0_0.length c0_0, .slice A0_1 l0_1.length c0_1], .int .i64 x7_3] (by rfl) rfl rfl (by (try simp only [List.map_toArray, List.map_cons, List.map_nil]); first | done | rfl | (simp only [List.length_drop, List.length_take]; rfl)) ?_
          with_reducible refine (spec_l06Edges.calls _ _ l0_0 (fun k_ => k_ < w.heap.size) _ _ l0_1 x7_3 t991010 _ ?side1 ?side2 ?side3 A21.out).mono ?_
          (case side1 => repeat (first | exact (Kd.C_below HR0_0.out HB.out) | (with_reducible refine Kd.C_alloc ?_ _) | (with_reducible refine Kd.C_drewN ?_ _) | (with_reducible refine Kd.C_drew ?_)))
          (case side2 => exact HC0_0.out)
          (case side3 => exact Kd.V_mk HC0_1.out (Kd.F_below (Kd.C_F (Kd.heap_slice 2 (Kd.heap_int .i64)) HR0_1.out) (by repeat (first | (with_reducible first | exact HB.out | apply below_alloc | apply pw_below_drewN | apply below_drew1 | refine below_set ?_ GE991001.out) | exact HB.out))))
          rintro e w39 ⟨v991011, rfl, ho0, hb⟩
          have HS2_ := (hb.cell (World.block_lt_of_cell? _ _ (hHeld.2.2.1))).trans (hHeld.2.2.1)
          have HS3_ := (hb.cell (World.block_lt_of_cell? _ _ (hHeld.2.2.2))).trans (hHeld.2.2.2)
          refine ⟨_, rfl, ?_⟩
          have n0_ := Aside0.mk (Kd.R_below (by (with_reducible repeat (first | apply Kd.R_alloc | apply Kd.R_drewN | apply Kd.R_drew)); exact HO_4.out) hb)
          have n1_ := Aside0.mk (Kd.V_lower (Kd.V_mono (ok' := fun k_ => some k_ ≠ (.slice (some ad991008) x4_4.length co13 : Value).ownBlock ∧ k_ ≠ gb991001) ho0 (fun k_ hk_ => ⟨Or.elim hk_ (fun hs_ => fun e_ => Nat.not_le.2 hs_ (Kd.R_base HO_4.out k_ e_.symm)) (fun hn_ => (Kd.fresh' (Kd.R_lt (by (with_reducible repeat (first | apply Kd.R_alloc | apply Kd.R_drewN | apply Kd.R_drew)); exact HO_4.out)) k_ hn_)), Or.elim hk_ (fun hs_ => fun e_ => Nat.not_le.2 hs_ (by rw [e_]; exact GW991001.out)) (fun hn_ => (Kd.freshB (g := gb991001) (o := .cells #[.slice A0_0 l0_0.length c0_0, .slice A0_1 l0_1.length c0_1] 30 (0, 0)) (by (with_reducible repeat (first | refine blk_drewN ?_ _ | refine blk_drew ?_ | refine blk_alloc ?_ _)); exact BK991001.out) k_ hn_))⟩)) (below_size (by repeat (first | (with_reducible first | exact HB.out | apply below_alloc | apply pw_below_drewN | apply below_drew1 | refine below_set ?_ GE991001.out) | exact HB.out))))
          have n2_ := Aside0.mk (blk_below (g := gb991001) (o := .cells #[.slice A0_0 l0_0.length c0_0, .slice A0_1 l0_1.length c0_1] 30 (0, 0)) (by (with_reducible repeat (first | refine blk_drewN ?_ _ | refine blk_drew ?_ | refine blk_alloc ?_ _)); exact BK991001.out) hb)
          have n3_ := Aside0.mk (below_step (by repeat (first | (with_reducible first | exact HB.out | apply below_alloc | apply pw_below_drewN | apply below_drew1 | refine below_set ?_ GE991001.out) | exact HB.out)) hb)
          clear HO_4
          clear BK991001
          clear HB
          have HO_4 := n0_
          have HO991012 := n1_
          have BK991001 := n2_
          have HB := n3_
          clear n0_ n1_ n2_ n3_
          (try clear hb)
          (try clear hb2)
          (try clear hk)
          (try clear hi)
          (try clear ho0)
          refine hK.out _ _ ⟨(blk_cell BK991001.out 0).trans rfl, (blk_cell BK991001.out 1).trans rfl, HS2_, HS3_⟩ (fun hHeld => ?_)
          clear hK K
          refine norm_ (a' := ?_) ?_ ?_
          rotate_left
          ·show Act.put _ (some 51) _ = _
           simp only [Act.put, List.setIfInBounds_toArray, List.set_cons_zero, List.set_cons_succ, i64_w, i32_w]
           rfl
          refine one_ (i := 15) (N := some 54) bqFgT_16 rfl rfl (one_of HT_.out (by kernel_rfl)) (by decide) (fun K hK => ?_)
          refine goes_ Try.func148 (by kernel_rfl) rfl #[.agg #[.slice A0_0 l0_0.length c0_0, .slice A0_1 l0_1.length c0_1], .int .i64 x8_4] (by rfl) rfl rfl (by (try simp only [List.map_toArray, List.map_cons, List.map_nil]); first | done | rfl | (simp only [List.length_drop, List.length_take]; rfl)) ?_
          with_reducible refine (spec_l06Edges.calls _ _ l0_0 (fun k_ => k_ < w.heap.size) _ _ l0_1 x8_4 t991013 _ ?side1 ?side2 ?side3 A22.out).mono ?_
          (case side1 => repeat (first | exact (Kd.C_below HR0_0.out HB.out) | (with_reducible refine Kd.C_alloc ?_ _) | (with_reducible refine Kd.C_drewN ?_ _) | (with_reducible refine Kd.C_drew ?_)))
          (case side2 => exact HC0_0.out)
          (case side3 => exact Kd.V_mk HC0_1.out (Kd.F_below (Kd.C_F (Kd.heap_slice 2 (Kd.heap_int .i64)) HR0_1.out) (by repeat (first | (with_reducible first | exact HB.out | apply below_alloc | apply pw_below_drewN | apply below_drew1 | refine below_set ?_ GE991001.out) | exact HB.out))))
          rintro e w40 ⟨v991014, rfl, ho0, hb⟩
          have HS2_ := (hb.cell (World.block_lt_of_cell? _ _ (hHeld.2.2.1))).trans (hHeld.2.2.1)
          have HS3_ := (hb.cell (World.block_lt_of_cell? _ _ (hHeld.2.2.2))).trans (hHeld.2.2.2)
          refine ⟨_, rfl, ?_⟩
          have n0_ := Aside0.mk (Kd.R_below (by (with_reducible repeat (first | apply Kd.R_alloc | apply Kd.R_drewN | apply Kd.R_drew)); exact HO_4.out) hb)
          have n1_ := Aside0.mk (Kd.V_below (by (with_reducible repeat (first | apply Kd.V_alloc | apply Kd.V_drewN | apply Kd.V_drew)); exact HO991012.out) hb)
          have n2_ := Aside0.mk (Kd.V_lower (Kd.V_mono (ok' := fun k_ => some k_ ≠ (.slice (some ad991008) x4_4.length co13 : Value).ownBlock ∧ k_ ≠ gb991001) ho0 (fun k_ hk_ => ⟨Or.elim hk_ (fun hs_ => fun e_ => Nat.not_le.2 hs_ (Kd.R_base HO_4.out k_ e_.symm)) (fun hn_ => (Kd.fresh' (Kd.R_lt (by (with_reducible repeat (first | apply Kd.R_alloc | apply Kd.R_drewN | apply Kd.R_drew)); exact HO_4.out)) k_ hn_)), Or.elim hk_ (fun hs_ => fun e_ => Nat.not_le.2 hs_ (by rw [e_]; exact GW991001.out)) (fun hn_ => (Kd.freshB (g := gb991001) (o := .cells #[.slice A0_0 l0_0.length c0_0, .slice A0_1 l0_1.length c0_1] 30 (0, 0)) (by (with_reducible repeat (first | refine blk_drewN ?_ _ | refine blk_drew ?_ | refine blk_alloc ?_ _)); exact BK991001.out) k_ hn_))⟩)) (below_size (by repeat (first | (with_reducible first | exact HB.out | apply below_alloc | apply pw_below_drewN | apply below_drew1 | refine below_set ?_ GE991001.out) | exact HB.out))))
          have n3_ := Aside0.mk (blk_below (g := gb991001) (o := .cells #[.slice A0_0 l0_0.length c0_0, .slice A0_1 l0_1.length c0_1] 30 (0, 0)) (by (with_reducible repeat (first | refine blk_drewN ?_ _ | refine blk_drew ?_ | refine blk_alloc ?_ _)); exact BK991001.out) hb)
          have n4_ := Aside0.mk (below_step (by repeat (first | (with_reducible first | exact HB.out | apply below_alloc | apply pw_below_drewN | apply below_drew1 | refine below_set ?_ GE991001.out) | exact HB.out)) hb)
          clear HO_4
          clear HO991012
          clear BK991001
          clear HB
          have HO_4 := n0_
          have HO991012 := n1_
          have HO991015 := n2_
          have BK991001 := n3_
          have HB := n4_
          clear n0_ n1_ n2_ n3_ n4_
          (try clear hb)
          (try clear hb2)
          (try clear hk)
          (try clear hi)
          (try clear ho0)
          obtain ⟨Ao41, co41, eo41⟩ := Kd.V_slice HO991012.out
          (first | subst eo41 | (injection eo41 with f1_ f2_ f3_; have f4_ := f1_.symm; have f5_ := f3_.symm; clear f1_ f2_ f3_; subst f4_; subst f5_))
          obtain ⟨Ao42, co42, eo42⟩ := Kd.V_slice HO991015.out
          (first | subst eo42 | (injection eo42 with f1_ f2_ f3_; have f4_ := f1_.symm; have f5_ := f3_.symm; clear f1_ f2_ f3_; subst f4_; subst f5_))
          refine hK.out _ _ ⟨(blk_cell BK991001.out 0).trans rfl, (blk_cell BK991001.out 1).trans rfl, HS2_, HS3_⟩ (fun hHeld => ?_)
          clear hK K
          refine norm_ (a' := ?_) ?_ ?_
          rotate_left
          ·show Act.put _ (some 54) _ = _
           simp only [Act.put, List.setIfInBounds_toArray, List.set_cons_zero, List.set_cons_succ, i64_w, i32_w]
           rfl
          refine one_ (i := 16) (N := some 55) bqFgT_17 rfl rfl (one_of HT_.out (by kernel_rfl)) (by decide) (fun K hK => ?_)
          refine goes_ Try.func147 (by kernel_rfl) rfl #[.slice Ao41 t991010.length co41, .slice Ao42 t991013.length co42] (by rfl) rfl rfl (by (try simp only [List.map_toArray, List.map_cons, List.map_nil]); first | done | rfl | (simp only [List.length_drop, List.length_take]; rfl)) ?_
          with_reducible refine (spec_l06Joined.calls k4 _ _ t991010 _ _ t991013 false _ ?side1 ?side2 ?side3 ?side4 A23.out).mono ?_
          (case side1 => repeat (first | exact (Kd.V_reads' HO991012.out).2.2 | (with_reducible refine Kd.C_alloc ?_ _) | (with_reducible refine Kd.C_drewN ?_ _) | (with_reducible refine Kd.C_drew ?_)))
          (case side2 => exact (Kd.V_reads' HO991012.out).2.1)
          (case side3 => repeat (first | exact (Kd.V_reads' HO991015.out).2.2 | (with_reducible refine Kd.C_alloc ?_ _) | (with_reducible refine Kd.C_drewN ?_ _) | (with_reducible refine Kd.C_drew ?_)))
          (case side4 => exact (Kd.V_reads' HO991015.out).2.1)
          rintro e w' ⟨rfl, ⟨nd, rfl⟩⟩
          refine ⟨_, rfl, ?_⟩
          refine hK.out _ _ ⟨(blk_cell BK991001.out 0).trans rfl, (blk_cell BK991001.out 1).trans rfl, hHeld.2.2.1, hHeld.2.2.2⟩ (fun hHeld => ?_)
          clear hK K
          refine norm_ (a' := ?_) ?_ ?_
          rotate_left
          ·show Act.put _ (some 55) _ = _
           simp only [Act.put, List.setIfInBounds_toArray, List.set_cons_zero, List.set_cons_succ, i64_w, i32_w]
           rfl
          refine pure_ (i := 17) (N := some 56) (v := ?_) (a' := ?_) bqFgT_18 rfl rfl (any_of HT_.out (by kernel_rfl)) (fun _ _ _ h => h) (Or.inl ⟨by rfl, ?_⟩) ?_ ?_
          rotate_left
          ·intro w'
           go_simp
           with_reducible rfl
          rotate_left
          ·simp only [Act.put, List.setIfInBounds_toArray, List.set_cons_zero, List.set_cons_succ, i64_w, i32_w]
           rfl
          refine pure_ (i := 18) (N := some 57) (v := ?_) (a' := ?_) bqFgT_19 rfl rfl (any_of HT_.out (by kernel_rfl)) (fun _ _ _ h => h) (Or.inl ⟨by rfl, ?_⟩) ?_ ?_
          rotate_left
          ·intro w'
           go_simp
           with_reducible rfl
          rotate_left
          ·simp only [Act.put, List.setIfInBounds_toArray, List.set_cons_zero, List.set_cons_succ, i64_w, i32_w]
           rfl
          refine done_ (done_of HT_.out (by kernel_rfl)) ?_
          try go_wp2
          (try simp only [← hl4_4])
          go_roundg k4
          case measure => have := HK1.out; have := HK2.out; have := HK3.out; have := HK4.out; omega
          case rel => exact ⟨(x4_4), (x6_4), (wrap64 (x8_4 + 1)), (by first | rfl | (simp; done) | (simp [*]; done)), (by first | rfl | (simp; done) | (simp [*]; done)), H', ⟨by have := HK1.out; have := HK2.out; have := HK3.out; have := HK4.out; omega⟩, ⟨by (try simp only [hl4_4]); (with_reducible repeat (first | apply Kd.R_alloc | apply Kd.R_drewN | apply Kd.R_drew)); exact HO_4.out⟩, ⟨by (try simp only [hl4_4]); (with_reducible repeat (first | refine blk_drewN ?_ _ | refine blk_drew ?_ | refine blk_alloc ?_ _)); exact BK991001.out⟩, ⟨by repeat (first | (with_reducible first | exact HB.out | apply below_alloc | apply pw_below_drewN | apply below_drew1 | refine below_set ?_ GE991001.out) | exact HB.out)⟩⟩
         subst c24
         have H1 : (spec_l06Parts.l3 k4 ((x4_4.set (x7_3 : Int).toNat (mn (rd x4_4 x7_3) (rd x4_4 x8_4))).set (x8_4 : Int).toNat (mn (rd x4_4 x7_3) (rd x4_4 x8_4))) true x7_3 (wrap64 (x8_4 + 1)) l0_0 l0_1) = some r := by rw [if_pos rfl] at H; exact H
         clear H
         have H := H1
         clear H1
         obtain ⟨ji25, hji25⟩ : ∃ j_ : Int, (mn (rd x4_4 x7_3) (rd x4_4 x8_4)) = j_ := ⟨_, rfl⟩
         replace H : (spec_l06Parts.l3 k4 ((x4_4.set (x7_3 : Int).toNat (ji25)).set (x8_4 : Int).toNat (ji25)) true x7_3 (wrap64 (x8_4 + 1)) l0_0 l0_1) = some r := by first | (rw [hji25] at H; exact H) | (simp only [hji25] at H ⊢; exact H)
         (try rw [hji25] at A21)
         (try rw [hji25] at A22)
         (try rw [hji25] at A23)
         have hji25_ : (if (rd x4_4 x8_4) < (rd x4_4 x7_3) then (rd x4_4 x8_4) else (rd x4_4 x7_3)) = ji25 := hji25
         obtain ⟨y991019, hy991019⟩ : ∃ y_ : List Int, y_ = (x4_4.set (x7_3 : Int).toNat (ji25)) := ⟨_, rfl⟩
         replace H : (spec_l06Parts.l3 k4 (y991019.set (x8_4 : Int).toNat (ji25)) true x7_3 (wrap64 (x8_4 + 1)) l0_0 l0_1) = some r := by first | (rw [hy991019]; with_reducible exact H) | (have H2_ := (Option.bind_some _ _).symm.trans H; rw [hy991019]; with_reducible exact H2_) | (have H2_ := (Option.bind_some _ _).symm.trans H; with_reducible exact H2_) | with_reducible exact H | (rw [hy991019]; exact H) | exact H
         have Ny991019 := Aside0.mk hy991019
         clear hy991019
         obtain ⟨y991020, hy991020⟩ : ∃ y_ : List Int, y_ = (y991019.set (x8_4 : Int).toNat (ji25)) := ⟨_, rfl⟩
         replace H : (spec_l06Parts.l3 k4 y991020 true x7_3 (wrap64 (x8_4 + 1)) l0_0 l0_1) = some r := by first | (rw [hy991020]; with_reducible exact H) | (have H2_ := (Option.bind_some _ _).symm.trans H; rw [hy991020]; with_reducible exact H2_) | (have H2_ := (Option.bind_some _ _).symm.trans H; with_reducible exact H2_) | with_reducible exact H | (rw [hy991020]; exact H) | exact H
         have Ny991020 := Aside0.mk hy991020
         clear hy991020
         have H' := Aside0.mk H
         clear H
         try go_wp2
         have n0_ := Aside0.mk (Kd.R_drew HO_4.out)
         have n1_ := Aside0.mk (blk_drew BK991001.out)
         have n2_ := Aside0.mk (below_drew1 HB.out)
         clear HO_4
         clear BK991001
         clear HB
         have HO_4 := n0_
         have BK991001 := n1_
         have HB := n2_
         clear n0_ n1_ n2_
         have p991008 : 0 ≤ (x7_3 : Int) := of_decide_eq_true (by first | (with_reducible assumption) | assumption)
         have q991008 : x7_3 < (x4_4.length : Int) := of_decide_eq_true (by first | (with_reducible assumption) | assumption)
         obtain ⟨ad991008, e991008, hx991008_0⟩ := Kd.at_int (Kd.R_reads' HO_4.out).2.2 x7_3 p991008 q991008
         cases e991008
         replace p991008 := eq_true p991008
         replace q991008 := eq_true q991008
         have p991009 : 0 ≤ (x8_4 : Int) := of_decide_eq_true (by first | (with_reducible assumption) | assumption)
         have q991009 : x8_4 < (x4_4.length : Int) := of_decide_eq_true (by first | (with_reducible assumption) | assumption)
         obtain ⟨ad991009, e991009, hx991009_0⟩ := Kd.at_int (Kd.R_reads' HO_4.out).2.2 x8_4 p991009 q991009
         obtain rfl : ad991008 = ad991009 := (by injection e991009)
         replace p991009 := eq_true p991009
         replace q991009 := eq_true q991009
         refine start_ (n := 19) (S := fun w' => w'.cell? ⟨gb991001, 0, none⟩ = some (.slice A0_0 l0_0.length c0_0) ∧ w'.cell? ⟨gb991001, 1, none⟩ = some (.slice A0_1 l0_1.length c0_1) ∧ w'.cell? (ad991008.add (x7_3).toNat) = some (.int .i64 (rd x4_4 x7_3)) ∧ w'.cell? (ad991008.add (x8_4).toNat) = some (.int .i64 (rd x4_4 x8_4))) (ds := []) bqFgT_0 (by kernel_rfl) rfl rfl ⟨(blk_cell BK991001.out 0).trans rfl, (blk_cell BK991001.out 1).trans rfl, hx991008_0, hx991009_0⟩ (fun hHeld => ?_); refine with_tabW spec_l06Parts.tab16 spec_l06Parts.bits16 (fun HT_ HW_ => ?_)
         generalize wr.drew = w28 at HO_4 BK991001 HB hx991008_0 hx991009_0 hHeld ⊢
         refine pure_ (i := 0) (N := some 39) (v := ?_) (a' := ?_) bqFgT_1 rfl rfl (any_of HT_.out (by kernel_rfl)) (fun _ _ _ h => h) (Or.inl ⟨by rfl, ?_⟩) ?_ ?_
         rotate_left
         ·intro w'
          go_simp
          with_reducible rfl
         rotate_left
         ·simp only [Act.put, List.setIfInBounds_toArray, List.set_cons_zero, List.set_cons_succ, i64_w, i32_w]
          rfl
         refine pure_ (i := 1) (N := some 40) (v := ?_) (a' := ?_) bqFgT_2 rfl rfl (any_of HT_.out (by kernel_rfl)) (fun _ _ _ h => h) (Or.inl ⟨by rfl, ?_⟩) ?_ ?_
         rotate_left
         ·intro w'
          go_simp
          with_reducible rfl
         rotate_left
         ·simp only [Act.put, List.setIfInBounds_toArray, List.set_cons_zero, List.set_cons_succ, i64_w, i32_w]
          rfl
         refine pure_ (i := 2) (N := some 41) (v := ?_) (a' := ?_) bqFgT_3 rfl rfl (any_of HT_.out (by kernel_rfl)) (fun _ _ _ h => h) (Or.inl ⟨by rfl, ?_⟩) ?_ ?_
         rotate_left
         ·intro w'
          go_simp
          with_reducible rfl
         rotate_left
         ·simp only [Act.put, List.setIfInBounds_toArray, List.set_cons_zero, List.set_cons_succ, i64_w, i32_w]
          rfl
         refine pure_ (i := 4) (N := some 43) (v := ?_) (a' := ?_) bqFgT_4 rfl rfl (any_of HT_.out (by kernel_rfl)) (fun _ _ _ h => h) (Or.inl ⟨by rfl, ?_⟩) ?_ ?_
         rotate_left
         ·intro w'
          go_simp
          with_reducible rfl
         rotate_left
         ·simp only [Act.put, List.setIfInBounds_toArray, List.set_cons_zero, List.set_cons_succ, i64_w, i32_w]
          rfl
         refine pure_ (i := 5) (N := some 44) (v := ?_) (a' := ?_) bqFgT_5 rfl rfl (any_of HT_.out (by kernel_rfl)) (fun _ _ _ h => h) (Or.inl ⟨by rfl, ?_⟩) ?_ ?_
         rotate_left
         ·intro w'
          go_simp
          with_reducible rfl
         rotate_left
         ·simp only [Act.put, List.setIfInBounds_toArray, List.set_cons_zero, List.set_cons_succ, i64_w, i32_w]
          rfl
         refine pure_ (i := 6) (N := some 45) (v := ?_) (a' := ?_) bqFgT_6 rfl rfl (any_of HT_.out (by kernel_rfl)) (fun _ _ _ h => h) (Or.inl ⟨by rfl, ?_⟩) ?_ ?_
         rotate_left
         ·intro w'
          go_simp
          with_reducible rfl
         rotate_left
         ·simp only [Act.put, List.setIfInBounds_toArray, List.set_cons_zero, List.set_cons_succ, i64_w, i32_w]
          rfl
         refine take_ (i := 3) (N := some 42) (v := ?_) (a' := ?_) bqFgT_7 rfl rfl (take_ofW HT_.out HW_.out (by kernel_rfl)) (fun _ _ _ h => h) (Or.inl ⟨by rfl, ?_⟩) hHeld ?_ ?_
         rotate_left
         ·rintro w' ⟨s0, s1, s2, s3⟩
          go_simp
          with_reducible rfl
         rotate_left
         ·simp only [Act.put, List.setIfInBounds_toArray, List.set_cons_zero, List.set_cons_succ, i64_w, i32_w]
          rfl
         refine take_ (i := 7) (N := some 46) (v := ?_) (a' := ?_) bqFgT_8 rfl rfl (take_ofW HT_.out HW_.out (by kernel_rfl)) (fun _ _ _ h => h) (Or.inl ⟨by rfl, ?_⟩) hHeld ?_ ?_
         rotate_left
         ·rintro w' ⟨s0, s1, s2, s3⟩
          go_simp
          with_reducible rfl
         rotate_left
         ·simp only [Act.put, List.setIfInBounds_toArray, List.set_cons_zero, List.set_cons_succ, i64_w, i32_w]
          rfl
         refine pure_ (i := 8) (N := some 47) (v := ?_) (a' := ?_) bqFgT_9 rfl rfl (any_of HT_.out (by kernel_rfl)) (fun _ _ _ h => h) (Or.inl ⟨by rfl, ?_⟩) ?_ ?_
         rotate_left
         ·intro w'
          go_simp
          with_reducible rfl
         rotate_left
         ·simp only [Act.put, List.setIfInBounds_toArray, List.set_cons_zero, List.set_cons_succ, i64_w, i32_w]
          rfl
         refine pure_ (i := 9) (N := some 48) (v := ?_) (a' := ?_) bqFgT_10 rfl rfl (any_of HT_.out (by kernel_rfl)) (fun _ _ _ h => h) (Or.inl ⟨by rfl, ?_⟩) ?_ ?_
         rotate_left
         ·intro w'
          go_simp
          with_reducible rfl
         rotate_left
         ·simp only [Act.put, List.setIfInBounds_toArray, List.set_cons_zero, List.set_cons_succ, i64_w, i32_w]
          rfl
         refine pure_ (i := 11) (N := some 50) (v := ?_) (a' := ?_) bqFgT_20 rfl rfl (any_of HT_.out (by kernel_rfl)) (fun _ _ _ h => h) (Or.inl ⟨by rfl, ?_⟩) ?_ ?_
         rotate_left
         ·intro w'
          go_simp
          with_reducible rfl
         rotate_left
         ·simp only [Act.put, List.setIfInBounds_toArray, List.set_cons_zero, List.set_cons_succ, i64_w, i32_w]
          rfl
         refine pure_ (i := 14) (N := some 53) (v := ?_) (a' := ?_) bqFgT_21 rfl rfl (any_of HT_.out (by kernel_rfl)) (fun _ _ _ h => h) (Or.inl ⟨by rfl, ?_⟩) ?_ ?_
         rotate_left
         ·intro w'
          go_simp
          with_reducible rfl
         rotate_left
         ·simp only [Act.put, List.setIfInBounds_toArray, List.set_cons_zero, List.set_cons_succ, i64_w, i32_w]
          rfl
         refine take_ (i := 10) (N := some 49) (v := ?_) (a' := ?_) bqFgT_22 rfl rfl (take_ofW HT_.out HW_.out (by kernel_rfl)) (fun _ _ _ h => h) (Or.inl ⟨by rfl, ?_⟩) hHeld ?_ ?_
         rotate_left
         ·rintro w' ⟨s0, s1, s2, s3⟩
          go_simp
          with_reducible rfl
         rotate_left
         ·simp only [Act.put, List.setIfInBounds_toArray, List.set_cons_zero, List.set_cons_succ, i64_w, i32_w]
          rfl
         refine take_ (i := 13) (N := some 52) (v := ?_) (a' := ?_) bqFgT_23 rfl rfl (take_ofW HT_.out HW_.out (by kernel_rfl)) (fun _ _ _ h => h) (Or.inl ⟨by rfl, ?_⟩) hHeld ?_ ?_
         rotate_left
         ·rintro w' ⟨s0, s1, s2, s3⟩
          go_simp
          with_reducible rfl
         rotate_left
         ·simp only [Act.put, List.setIfInBounds_toArray, List.set_cons_zero, List.set_cons_succ, i64_w, i32_w]
          rfl
         refine one_ (i := 12) (N := some 51) bqFgT_15 rfl rfl (one_of HT_.out (by kernel_rfl)) (by decide) (fun K hK => ?_)
         refine goes_ Try.func148 (by kernel_rfl) rfl #[.agg #[.slice A0_0 l0_0.length c0_0, .slice A0_1 l0_1.length c0_1], .int .i64 x7_3] (by rfl) rfl rfl (by (try simp only [List.map_toArray, List.map_cons, List.map_nil]); first | done | rfl | (simp only [List.length_drop, List.length_take]; rfl)) ?_
         with_reducible refine (spec_l06Edges.calls _ _ l0_0 (fun k_ => k_ < w.heap.size) _ _ l0_1 x7_3 t991010 _ ?side1 ?side2 ?side3 A21.out).mono ?_
         (case side1 => repeat (first | exact (Kd.C_below HR0_0.out HB.out) | (with_reducible refine Kd.C_alloc ?_ _) | (with_reducible refine Kd.C_drewN ?_ _) | (with_reducible refine Kd.C_drew ?_)))
         (case side2 => exact HC0_0.out)
         (case side3 => exact Kd.V_mk HC0_1.out (Kd.F_below (Kd.C_F (Kd.heap_slice 2 (Kd.heap_int .i64)) HR0_1.out) (by repeat (first | (with_reducible first | exact HB.out | apply below_alloc | apply pw_below_drewN | apply below_drew1 | refine below_set ?_ GE991001.out) | exact HB.out))))
         rintro e w29 ⟨v991011, rfl, ho0, hb⟩
         have HS2_ := (hb.cell (World.block_lt_of_cell? _ _ (hHeld.2.2.1))).trans (hHeld.2.2.1)
         have HS3_ := (hb.cell (World.block_lt_of_cell? _ _ (hHeld.2.2.2))).trans (hHeld.2.2.2)
         refine ⟨_, rfl, ?_⟩
         have n0_ := Aside0.mk (Kd.R_below (by (with_reducible repeat (first | apply Kd.R_alloc | apply Kd.R_drewN | apply Kd.R_drew)); exact HO_4.out) hb)
         have n1_ := Aside0.mk (Kd.V_lower (Kd.V_mono (ok' := fun k_ => some k_ ≠ (.slice (some ad991008) x4_4.length co13 : Value).ownBlock ∧ k_ ≠ gb991001) ho0 (fun k_ hk_ => ⟨Or.elim hk_ (fun hs_ => fun e_ => Nat.not_le.2 hs_ (Kd.R_base HO_4.out k_ e_.symm)) (fun hn_ => (Kd.fresh' (Kd.R_lt (by (with_reducible repeat (first | apply Kd.R_alloc | apply Kd.R_drewN | apply Kd.R_drew)); exact HO_4.out)) k_ hn_)), Or.elim hk_ (fun hs_ => fun e_ => Nat.not_le.2 hs_ (by rw [e_]; exact GW991001.out)) (fun hn_ => (Kd.freshB (g := gb991001) (o := .cells #[.slice A0_0 l0_0.length c0_0, .slice A0_1 l0_1.length c0_1] 30 (0, 0)) (by (with_reducible repeat (first | refine blk_drewN ?_ _ | refine blk_drew ?_ | refine blk_alloc ?_ _)); exact BK991001.out) k_ hn_))⟩)) (below_size (by repeat (first | (with_reducible first | exact HB.out | apply below_alloc | apply pw_below_drewN | apply below_drew1 | refine below_set ?_ GE991001.out) | exact HB.out))))
         have n2_ := Aside0.mk (blk_below (g := gb991001) (o := .cells #[.slice A0_0 l0_0.length c0_0, .slice A0_1 l0_1.length c0_1] 30 (0, 0)) (by (with_reducible repeat (first | refine blk_drewN ?_ _ | refine blk_drew ?_ | refine blk_alloc ?_ _)); exact BK991001.out) hb)
         have n3_ := Aside0.mk (below_step (by repeat (first | (with_reducible first | exact HB.out | apply below_alloc | apply pw_below_drewN | apply below_drew1 | refine below_set ?_ GE991001.out) | exact HB.out)) hb)
         clear HO_4
         clear BK991001
         clear HB
         have HO_4 := n0_
         have HO991012 := n1_
         have BK991001 := n2_
         have HB := n3_
         clear n0_ n1_ n2_ n3_
         (try clear hb)
         (try clear hb2)
         (try clear hk)
         (try clear hi)
         (try clear ho0)
         refine hK.out _ _ ⟨(blk_cell BK991001.out 0).trans rfl, (blk_cell BK991001.out 1).trans rfl, HS2_, HS3_⟩ (fun hHeld => ?_)
         clear hK K
         refine norm_ (a' := ?_) ?_ ?_
         rotate_left
         ·show Act.put _ (some 51) _ = _
          simp only [Act.put, List.setIfInBounds_toArray, List.set_cons_zero, List.set_cons_succ, i64_w, i32_w]
          rfl
         refine one_ (i := 15) (N := some 54) bqFgT_16 rfl rfl (one_of HT_.out (by kernel_rfl)) (by decide) (fun K hK => ?_)
         refine goes_ Try.func148 (by kernel_rfl) rfl #[.agg #[.slice A0_0 l0_0.length c0_0, .slice A0_1 l0_1.length c0_1], .int .i64 x8_4] (by rfl) rfl rfl (by (try simp only [List.map_toArray, List.map_cons, List.map_nil]); first | done | rfl | (simp only [List.length_drop, List.length_take]; rfl)) ?_
         with_reducible refine (spec_l06Edges.calls _ _ l0_0 (fun k_ => k_ < w.heap.size) _ _ l0_1 x8_4 t991013 _ ?side1 ?side2 ?side3 A22.out).mono ?_
         (case side1 => repeat (first | exact (Kd.C_below HR0_0.out HB.out) | (with_reducible refine Kd.C_alloc ?_ _) | (with_reducible refine Kd.C_drewN ?_ _) | (with_reducible refine Kd.C_drew ?_)))
         (case side2 => exact HC0_0.out)
         (case side3 => exact Kd.V_mk HC0_1.out (Kd.F_below (Kd.C_F (Kd.heap_slice 2 (Kd.heap_int .i64)) HR0_1.out) (by repeat (first | (with_reducible first | exact HB.out | apply below_alloc | apply pw_below_drewN | apply below_drew1 | refine below_set ?_ GE991001.out) | exact HB.out))))
         rintro e w30 ⟨v991014, rfl, ho0, hb⟩
         have HS2_ := (hb.cell (World.block_lt_of_cell? _ _ (hHeld.2.2.1))).trans (hHeld.2.2.1)
         have HS3_ := (hb.cell (World.block_lt_of_cell? _ _ (hHeld.2.2.2))).trans (hHeld.2.2.2)
         refine ⟨_, rfl, ?_⟩
         have n0_ := Aside0.mk (Kd.R_below (by (with_reducible repeat (first | apply Kd.R_alloc | apply Kd.R_drewN | apply Kd.R_drew)); exact HO_4.out) hb)
         have n1_ := Aside0.mk (Kd.V_below (by (with_reducible repeat (first | apply Kd.V_alloc | apply Kd.V_drewN | apply Kd.V_drew)); exact HO991012.out) hb)
         have n2_ := Aside0.mk (Kd.V_lower (Kd.V_mono (ok' := fun k_ => some k_ ≠ (.slice (some ad991008) x4_4.length co13 : Value).ownBlock ∧ k_ ≠ gb991001) ho0 (fun k_ hk_ => ⟨Or.elim hk_ (fun hs_ => fun e_ => Nat.not_le.2 hs_ (Kd.R_base HO_4.out k_ e_.symm)) (fun hn_ => (Kd.fresh' (Kd.R_lt (by (with_reducible repeat (first | apply Kd.R_alloc | apply Kd.R_drewN | apply Kd.R_drew)); exact HO_4.out)) k_ hn_)), Or.elim hk_ (fun hs_ => fun e_ => Nat.not_le.2 hs_ (by rw [e_]; exact GW991001.out)) (fun hn_ => (Kd.freshB (g := gb991001) (o := .cells #[.slice A0_0 l0_0.length c0_0, .slice A0_1 l0_1.length c0_1] 30 (0, 0)) (by (with_reducible repeat (first | refine blk_drewN ?_ _ | refine blk_drew ?_ | refine blk_alloc ?_ _)); exact BK991001.out) k_ hn_))⟩)) (below_size (by repeat (first | (with_reducible first | exact HB.out | apply below_alloc | apply pw_below_drewN | apply below_drew1 | refine below_set ?_ GE991001.out) | exact HB.out))))
         have n3_ := Aside0.mk (blk_below (g := gb991001) (o := .cells #[.slice A0_0 l0_0.length c0_0, .slice A0_1 l0_1.length c0_1] 30 (0, 0)) (by (with_reducible repeat (first | refine blk_drewN ?_ _ | refine blk_drew ?_ | refine blk_alloc ?_ _)); exact BK991001.out) hb)
         have n4_ := Aside0.mk (below_step (by repeat (first | (with_reducible first | exact HB.out | apply below_alloc | apply pw_below_drewN | apply below_drew1 | refine below_set ?_ GE991001.out) | exact HB.out)) hb)
         clear HO_4
         clear HO991012
         clear BK991001
         clear HB
         have HO_4 := n0_
         have HO991012 := n1_
         have HO991015 := n2_
         have BK991001 := n3_
         have HB := n4_
         clear n0_ n1_ n2_ n3_ n4_
         (try clear hb)
         (try clear hb2)
         (try clear hk)
         (try clear hi)
         (try clear ho0)
         obtain ⟨Ao31, co31, eo31⟩ := Kd.V_slice HO991012.out
         (first | subst eo31 | (injection eo31 with f1_ f2_ f3_; have f4_ := f1_.symm; have f5_ := f3_.symm; clear f1_ f2_ f3_; subst f4_; subst f5_))
         obtain ⟨Ao32, co32, eo32⟩ := Kd.V_slice HO991015.out
         (first | subst eo32 | (injection eo32 with f1_ f2_ f3_; have f4_ := f1_.symm; have f5_ := f3_.symm; clear f1_ f2_ f3_; subst f4_; subst f5_))
         refine hK.out _ _ ⟨(blk_cell BK991001.out 0).trans rfl, (blk_cell BK991001.out 1).trans rfl, HS2_, HS3_⟩ (fun hHeld => ?_)
         clear hK K
         refine norm_ (a' := ?_) ?_ ?_
         rotate_left
         ·show Act.put _ (some 54) _ = _
          simp only [Act.put, List.setIfInBounds_toArray, List.set_cons_zero, List.set_cons_succ, i64_w, i32_w]
          rfl
         refine one_ (i := 16) (N := some 55) bqFgT_17 rfl rfl (one_of HT_.out (by kernel_rfl)) (by decide) (fun K hK => ?_)
         refine goes_ Try.func147 (by kernel_rfl) rfl #[.slice Ao31 t991010.length co31, .slice Ao32 t991013.length co32] (by rfl) rfl rfl (by (try simp only [List.map_toArray, List.map_cons, List.map_nil]); first | done | rfl | (simp only [List.length_drop, List.length_take]; rfl)) ?_
         with_reducible refine (spec_l06Joined.calls k4 _ _ t991010 _ _ t991013 true _ ?side1 ?side2 ?side3 ?side4 A23.out).mono ?_
         (case side1 => repeat (first | exact (Kd.V_reads' HO991012.out).2.2 | (with_reducible refine Kd.C_alloc ?_ _) | (with_reducible refine Kd.C_drewN ?_ _) | (with_reducible refine Kd.C_drew ?_)))
         (case side2 => exact (Kd.V_reads' HO991012.out).2.1)
         (case side3 => repeat (first | exact (Kd.V_reads' HO991015.out).2.2 | (with_reducible refine Kd.C_alloc ?_ _) | (with_reducible refine Kd.C_drewN ?_ _) | (with_reducible refine Kd.C_drew ?_)))
         (case side4 => exact (Kd.V_reads' HO991015.out).2.1)
         rintro e w' ⟨rfl, ⟨nd, rfl⟩⟩
         refine ⟨_, rfl, ?_⟩
         refine hK.out _ _ ⟨(blk_cell BK991001.out 0).trans rfl, (blk_cell BK991001.out 1).trans rfl, hHeld.2.2.1, hHeld.2.2.2⟩ (fun hHeld => ?_)
         clear hK K
         refine norm_ (a' := ?_) ?_ ?_
         rotate_left
         ·show Act.put _ (some 55) _ = _
          simp only [Act.put, List.setIfInBounds_toArray, List.set_cons_zero, List.set_cons_succ, i64_w, i32_w]
          rfl
         refine pure_ (i := 17) (N := some 56) (v := ?_) (a' := ?_) bqFgT_18 rfl rfl (any_of HT_.out (by kernel_rfl)) (fun _ _ _ h => h) (Or.inl ⟨by rfl, ?_⟩) ?_ ?_
         rotate_left
         ·intro w'
          go_simp
          with_reducible rfl
         rotate_left
         ·simp only [Act.put, List.setIfInBounds_toArray, List.set_cons_zero, List.set_cons_succ, i64_w, i32_w]
          rfl
         refine pure_ (i := 18) (N := some 57) (v := ?_) (a' := ?_) bqFgT_19 rfl rfl (any_of HT_.out (by kernel_rfl)) (fun _ _ _ h => h) (Or.inl ⟨by rfl, ?_⟩) ?_ ?_
         rotate_left
         ·intro w'
          go_simp
          with_reducible rfl
         rotate_left
         ·simp only [Act.put, List.setIfInBounds_toArray, List.set_cons_zero, List.set_cons_succ, i64_w, i32_w]
          rfl
         refine done_ (done_of HT_.out (by kernel_rfl)) ?_
         try go_wp2
         (try (rw [drewN_self w30]; generalize hq_ : World.drewN w30 _ = w30; have n0_ : Aside0 (Kd.V (Kd.int .i64) 2 w30 w.heap.size (fun k_ => some k_ ≠ (.slice (some ad991008) x4_4.length co13 : Value).ownBlock ∧ k_ ≠ gb991001) (.slice Ao31 t991010.length co31) t991010) := ⟨by rw [← hq_]; exact (by (with_reducible repeat (first | apply Kd.V_alloc | apply Kd.V_drewN | apply Kd.V_drew)); exact HO991012.out)⟩; have n1_ : Aside0 (Kd.V (Kd.int .i64) 2 w30 w.heap.size (fun k_ => some k_ ≠ (.slice (some ad991008) x4_4.length co13 : Value).ownBlock ∧ k_ ≠ gb991001) (.slice Ao32 t991013.length co32) t991013) := ⟨by rw [← hq_]; exact (by (with_reducible repeat (first | apply Kd.V_alloc | apply Kd.V_drewN | apply Kd.V_drew)); exact HO991015.out)⟩; have n2_ : Aside0 (Kd.R (Kd.int .i64) 3 w30 w.heap.size (fun _ => True) (.slice (some ad991008) x4_4.length co13) x4_4) := ⟨by rw [← hq_]; exact (by (with_reducible repeat (first | apply Kd.R_alloc | apply Kd.R_drewN | apply Kd.R_drew)); exact HO_4.out)⟩; have n3_ : Aside0 (w30.heap[gb991001]? = some (.cells #[.slice A0_0 l0_0.length c0_0, .slice A0_1 l0_1.length c0_1] 30 (0, 0))) := ⟨by rw [← hq_]; exact (by (with_reducible repeat (first | refine blk_drewN ?_ _ | refine blk_drew ?_ | refine blk_alloc ?_ _)); exact BK991001.out)⟩; have n4_ : Aside0 (Below w.heap.size w w30) := ⟨by rw [← hq_]; exact (by repeat (first | (with_reducible first | exact HB.out | apply below_alloc | apply pw_below_drewN | apply below_drew1 | refine below_set ?_ GE991001.out) | exact HB.out))⟩; clear HO991012 HO991015 HO_4 BK991001 HB hq_; have HO991012 := n0_; have HO991015 := n1_; have HO_4 := n2_; have BK991001 := n3_; have HB := n4_; clear n0_ n1_ n2_ n3_ n4_))
         have n0_ := Aside0.mk (Kd.R_drew HO_4.out)
         have n1_ := Aside0.mk (Kd.V_drew HO991012.out)
         have n2_ := Aside0.mk (Kd.V_drew HO991015.out)
         have n3_ := Aside0.mk (blk_drew BK991001.out)
         have n4_ := Aside0.mk (below_drew1 HB.out)
         clear HO_4
         clear HO991012
         clear HO991015
         clear BK991001
         clear HB
         have HO_4 := n0_
         have HO991012 := n1_
         have HO991015 := n2_
         have BK991001 := n3_
         have HB := n4_
         clear n0_ n1_ n2_ n3_ n4_
         have p991017 : 0 ≤ (x7_3 : Int) := of_decide_eq_true (by first | (with_reducible assumption) | assumption)
         have q991017 : x7_3 < (x4_4.length : Int) := of_decide_eq_true (by first | (with_reducible assumption) | assumption)
         obtain ⟨ad991017, e991017, hx991017_0⟩ := Kd.at_int (Kd.R_reads' HO_4.out).2.2 x7_3 p991017 q991017
         obtain rfl : ad991008 = ad991017 := (by injection e991017)
         replace p991017 := eq_true p991017
         replace q991017 := eq_true q991017
         have p991018 : 0 ≤ (x8_4 : Int) := of_decide_eq_true (by first | (with_reducible assumption) | assumption)
         have q991018 : x8_4 < (x4_4.length : Int) := of_decide_eq_true (by first | (with_reducible assumption) | assumption)
         obtain ⟨ad991018, e991018, hx991018_0⟩ := Kd.at_int (Kd.R_reads' HO_4.out).2.2 x8_4 p991018 q991018
         obtain rfl : ad991008 = ad991018 := (by injection e991018)
         replace p991018 := eq_true p991018
         replace q991018 := eq_true q991018
         refine start_ (n := 10) (S := fun w' => w'.cell? (ad991008.add (x7_3).toNat) = some (.int .i64 (rd x4_4 x7_3)) ∧ w'.cell? (ad991008.add (x8_4).toNat) = some (.int .i64 (rd x4_4 x8_4))) (ds := []) bqFgT_24 (by kernel_rfl) rfl rfl ⟨hx991017_0, hx991018_0⟩ (fun hHeld => ?_); refine with_tabW spec_l06Parts.tab17 spec_l06Parts.bits17 (fun HT_ HW_ => ?_)
         generalize w30.drew = w33 at HO_4 HO991012 HO991015 BK991001 HB hx991017_0 hx991018_0 hHeld ⊢
         refine pure_ (i := 0) (N := some 58) (v := ?_) (a' := ?_) bqFgT_25 rfl rfl (any_of HT_.out (by kernel_rfl)) (fun _ _ _ h => h) (Or.inl ⟨by rfl, ?_⟩) ?_ ?_
         rotate_left
         ·intro w'
          go_simp
          with_reducible rfl
         rotate_left
         ·simp only [Act.put, List.setIfInBounds_toArray, List.set_cons_zero, List.set_cons_succ, i64_w, i32_w]
          rfl
         refine pure_ (i := 1) (N := some 59) (v := ?_) (a' := ?_) bqFgT_26 rfl rfl (any_of HT_.out (by kernel_rfl)) (fun _ _ _ h => h) (Or.inl ⟨by rfl, ?_⟩) ?_ ?_
         rotate_left
         ·intro w'
          go_simp
          with_reducible rfl
         rotate_left
         ·simp only [Act.put, List.setIfInBounds_toArray, List.set_cons_zero, List.set_cons_succ, i64_w, i32_w]
          rfl
         refine pure_ (i := 2) (N := some 60) (v := ?_) (a' := ?_) bqFgT_27 rfl rfl (any_of HT_.out (by kernel_rfl)) (fun _ _ _ h => h) (Or.inl ⟨by rfl, ?_⟩) ?_ ?_
         rotate_left
         ·intro w'
          go_simp
          with_reducible rfl
         rotate_left
         ·simp only [Act.put, List.setIfInBounds_toArray, List.set_cons_zero, List.set_cons_succ, i64_w, i32_w]
          rfl
         refine pure_ (i := 4) (N := some 62) (v := ?_) (a' := ?_) bqFgT_28 rfl rfl (any_of HT_.out (by kernel_rfl)) (fun _ _ _ h => h) (Or.inl ⟨by rfl, ?_⟩) ?_ ?_
         rotate_left
         ·intro w'
          go_simp
          with_reducible rfl
         rotate_left
         ·simp only [Act.put, List.setIfInBounds_toArray, List.set_cons_zero, List.set_cons_succ, i64_w, i32_w]
          rfl
         refine pure_ (i := 5) (N := some 63) (v := ?_) (a' := ?_) bqFgT_29 rfl rfl (any_of HT_.out (by kernel_rfl)) (fun _ _ _ h => h) (Or.inl ⟨by rfl, ?_⟩) ?_ ?_
         rotate_left
         ·intro w'
          go_simp
          with_reducible rfl
         rotate_left
         ·simp only [Act.put, List.setIfInBounds_toArray, List.set_cons_zero, List.set_cons_succ, i64_w, i32_w]
          rfl
         refine pure_ (i := 6) (N := some 64) (v := ?_) (a' := ?_) bqFgT_30 rfl rfl (any_of HT_.out (by kernel_rfl)) (fun _ _ _ h => h) (Or.inl ⟨by rfl, ?_⟩) ?_ ?_
         rotate_left
         ·intro w'
          go_simp
          with_reducible rfl
         rotate_left
         ·simp only [Act.put, List.setIfInBounds_toArray, List.set_cons_zero, List.set_cons_succ, i64_w, i32_w]
          rfl
         refine take_ (i := 3) (N := some 61) (v := ?_) (a' := ?_) bqFgT_31 rfl rfl (take_ofW HT_.out HW_.out (by kernel_rfl)) (fun _ _ _ h => h) (Or.inl ⟨by rfl, ?_⟩) hHeld ?_ ?_
         rotate_left
         ·rintro w' ⟨s0, s1⟩
          go_simp
          with_reducible rfl
         rotate_left
         ·simp only [Act.put, List.setIfInBounds_toArray, List.set_cons_zero, List.set_cons_succ, i64_w, i32_w]
          rfl
         refine take_ (i := 7) (N := some 65) (v := ?_) (a' := ?_) bqFgT_32 rfl rfl (take_ofW HT_.out HW_.out (by kernel_rfl)) (fun _ _ _ h => h) (Or.inl ⟨by rfl, ?_⟩) hHeld ?_ ?_
         rotate_left
         ·rintro w' ⟨s0, s1⟩
          go_simp
          with_reducible rfl
         rotate_left
         ·simp only [Act.put, List.setIfInBounds_toArray, List.set_cons_zero, List.set_cons_succ, i64_w, i32_w]
          rfl
         refine pure_ (i := 8) (N := some 66) (v := ?_) (a' := ?_) bqFgT_33 rfl rfl (any_of HT_.out (by kernel_rfl)) (fun _ _ _ h => h) (Or.inl ⟨by rfl, ?_⟩) ?_ ?_
         rotate_left
         ·intro w'
          go_simp
          with_reducible rfl
         rotate_left
         ·simp only [Act.put, List.setIfInBounds_toArray, List.set_cons_zero, List.set_cons_succ, i64_w, i32_w]
          rfl
         refine pure_ (i := 9) (N := some 9) (v := ?_) (a' := ?_) bqFgT_34 rfl rfl (any_of HT_.out (by kernel_rfl)) (fun _ _ _ h => h) (Or.inl ⟨by rfl, ?_⟩) ?_ ?_
         rotate_left
         ·intro w'
          go_simp
          with_reducible rfl
         rotate_left
         ·simp only [Act.put, List.setIfInBounds_toArray, List.set_cons_zero, List.set_cons_succ, i64_w, i32_w]
          rfl
         refine done_ (done_of HT_.out (by kernel_rfl)) ?_
         have p26 : 0 ≤ (x7_3 : Int) := of_decide_eq_true (by first | (with_reducible assumption) | assumption)
         have q26 : (x7_3 : Int) < ((x4_4.length : Int) : Int) := of_decide_eq_true (by first | (with_reducible assumption) | assumption)
         obtain ⟨go26, co26, eo26, gb26, gl26, cl26, HG26⟩ := Kd.R_form HO_4.out (by omega)
         (first | cases eo26 | (injection eo26 with ea_ en_ ec_; (first | subst ea_ | (injection ea_ with ea_; subst ea_)); subst ec_; clear en_))
         have GB26 := Aside0.mk gb26
         have GG26 := Aside0.mk HG26
         clear gb26 gl26 HG26
         (first | simp only [add_plain] at hx991008_0 | skip)
         (first | simp only [add_plain] at hx991009_0 | skip)
         (first | simp only [add_plain] at hx991017_0 | skip)
         (first | simp only [add_plain] at hx991018_0 | skip)
         obtain ⟨hx26_0, hf26_0⟩ := Kd.R_celln 0 HO_4.out (x7_3 : Int) p26 q26
         replace p26 := eq_true p26
         replace q26 := eq_true q26
         obtain ⟨hy34_, hz34_⟩ := Kd.R_celln 0 HO_4.out (x7_3 : Int) (of_decide_eq_true (by first | (with_reducible assumption) | assumption)) (of_decide_eq_true (by first | (with_reducible assumption) | assumption))
         have HP34 := Kd.R_putg HO_4.out (x7_3 : Int) ji25
         try go_wp2_with (first | ((with_reducible refine gate_store (t := 3) (p := 70) rfl ?_); refine store_event (t := 3) (p := 70) (v := ?vo_w35) (w1 := (w33.setCell ⟨go26, (x7_3 : Int).toNat, none⟩ (.int .i64 ji25))) ?hg ?ho ?hn ?hr ?_; (case ho => rfl); (case hg => rfl); (case hn => rfl); (case hr => first | (go_simp; done) | (go_simp; rfl)); intro w35 hw; have hg : w33.grownBy w35 (some go26) := (by rw [hw]; exact HP34.2); have hp_ : Kd.R (Kd.int .i64) 3 w35 w.heap.size (fun _ => True) (.slice (some ⟨go26, 0, none⟩) x4_4.length co13) y991019 := (by rw [hw, Ny991019.out]; exact HP34.1); clear HP34; have n0_ := Aside0.mk (hp_); have n1_ := Aside0.mk (blk_grown (g := gb991001) (o := .cells #[.slice A0_0 l0_0.length c0_0, .slice A0_1 l0_1.length c0_1] 30 (0, 0)) (by (with_reducible repeat (first | refine blk_drewN ?_ _ | refine blk_drew ?_ | refine blk_alloc ?_ _)); exact BK991001.out) hg (Kd.R_ne HO_4.out BK991001.out (by decide))); have n2_ := Aside0.mk (Kd.V_afterv (v := (.slice (some ⟨go26, 0, none⟩) x4_4.length co13)) (v1 := (.slice (some ⟨go26, 0, none⟩) x4_4.length co13)) (ok := (fun k_ => k_ ≠ gb991001)) (by (with_reducible repeat (first | apply Kd.V_alloc | apply Kd.V_drewN | apply Kd.V_drew)); exact Kd.V_mono HO991012.out (fun _ hk => ⟨hk.2, hk.1⟩)) hg (.inl rfl)); have n3_ := Aside0.mk (Kd.V_afterv (v := (.slice (some ⟨go26, 0, none⟩) x4_4.length co13)) (v1 := (.slice (some ⟨go26, 0, none⟩) x4_4.length co13)) (ok := (fun k_ => k_ ≠ gb991001)) (by (with_reducible repeat (first | apply Kd.V_alloc | apply Kd.V_drewN | apply Kd.V_drew)); exact Kd.V_mono HO991015.out (fun _ hk => ⟨hk.2, hk.1⟩)) hg (.inl rfl)); have n4_ := Aside0.mk ((by rw [hw]; exact below_set (HB.out) GB26.out : Below w.heap.size w w35)); clear HO_4; clear BK991001; clear HO991012; clear HO991015; clear HB; have HO_4 := n0_; have BK991001 := n1_; have HO991012 := n2_; have HO991015 := n3_; have HB := n4_; clear n0_ n1_ n2_ n3_ n4_; clear hg hw hp_; have p27 : 0 ≤ (x8_4 : Int) := of_decide_eq_true (by first | (with_reducible assumption) | assumption); have q27 : (x8_4 : Int) < ((x4_4.length : Int) : Int) := of_decide_eq_true (by first | (with_reducible assumption) | assumption); obtain ⟨hx27_0, hf27_0⟩ := Kd.R_celln 0 HO_4.out (x8_4 : Int) p27 q27; replace p27 := eq_true p27; replace q27 := eq_true q27; obtain ⟨hy36_, hz36_⟩ := Kd.R_celln 0 HO_4.out (x8_4 : Int) (of_decide_eq_true (by first | (with_reducible assumption) | assumption)) (of_decide_eq_true (by first | (with_reducible assumption) | assumption)); have HP36 := Kd.R_putg HO_4.out (x8_4 : Int) ji25) | ((with_reducible refine gate_store (t := 3) (p := 74) rfl ?_); refine store_event (t := 3) (p := 74) (v := ?vo_w37) (w1 := (w35.setCell ⟨go26, (x8_4 : Int).toNat, none⟩ (.int .i64 ji25))) ?hg ?ho ?hn ?hr ?_; (case ho => rfl); (case hg => rfl); (case hn => rfl); (case hr => first | (go_simp; done) | (go_simp; rfl)); intro w37 hw; have hg : w35.grownBy w37 (some go26) := (by rw [hw]; exact HP36.2); have hp_ : Kd.R (Kd.int .i64) 3 w37 w.heap.size (fun _ => True) (.slice (some ⟨go26, 0, none⟩) x4_4.length co13) y991020 := (by rw [hw, Ny991020.out]; exact HP36.1); clear HP36; have n0_ := Aside0.mk (hp_); have n1_ := Aside0.mk (blk_grown (g := gb991001) (o := .cells #[.slice A0_0 l0_0.length c0_0, .slice A0_1 l0_1.length c0_1] 30 (0, 0)) (by (with_reducible repeat (first | refine blk_drewN ?_ _ | refine blk_drew ?_ | refine blk_alloc ?_ _)); exact BK991001.out) hg (Kd.R_ne HO_4.out BK991001.out (by decide))); have n2_ := Aside0.mk (Kd.V_afterv (v := (.slice (some ⟨go26, 0, none⟩) x4_4.length co13)) (v1 := (.slice (some ⟨go26, 0, none⟩) x4_4.length co13)) (ok := (fun k_ => k_ ≠ gb991001)) (by (with_reducible repeat (first | apply Kd.V_alloc | apply Kd.V_drewN | apply Kd.V_drew)); exact HO991012.out) hg (.inl rfl)); have n3_ := Aside0.mk (Kd.V_afterv (v := (.slice (some ⟨go26, 0, none⟩) x4_4.length co13)) (v1 := (.slice (some ⟨go26, 0, none⟩) x4_4.length co13)) (ok := (fun k_ => k_ ≠ gb991001)) (by (with_reducible repeat (first | apply Kd.V_alloc | apply Kd.V_drewN | apply Kd.V_drew)); exact HO991015.out) hg (.inl rfl)); have n4_ := Aside0.mk ((by rw [hw]; exact below_set (HB.out) GB26.out : Below w.heap.size w w37)); clear HO_4; clear BK991001; clear HO991012; clear HO991015; clear HB; have HO_4 := n0_; have BK991001 := n1_; have HO991012 := n2_; have HO991015 := n3_; have HB := n4_; clear n0_ n1_ n2_ n3_ n4_; clear hg hw hp_))
         (try simp only [← hl4_4])
         go_roundg k4
         case measure => have := HK1.out; have := HK2.out; have := HK3.out; have := HK4.out; omega
         case rel => exact ⟨(y991020), (true), (wrap64 (x8_4 + 1)), (by first | rfl | (simp; done) | (simp [*]; done)), (by first | rfl | (simp; done) | (simp [*]; done)), H', ⟨by have := HK1.out; have := HK2.out; have := HK3.out; have := HK4.out; omega⟩, ⟨by (try simp only [hl4_4]); (with_reducible repeat (first | apply Kd.R_alloc | apply Kd.R_drewN | apply Kd.R_drew)); exact HO_4.out⟩, ⟨by (try simp only [hl4_4]); (with_reducible repeat (first | refine blk_drewN ?_ _ | refine blk_drew ?_ | refine blk_alloc ?_ _)); exact BK991001.out⟩, ⟨by repeat (first | (with_reducible first | exact HB.out | apply below_alloc | apply pw_below_drewN | apply below_drew1 | refine below_set ?_ GE991001.out) | exact HB.out)⟩⟩
end
section
open Go.RowKit Go.Proofs.YtmeggliapebkgaaW.PrintWords Go.Proofs.YtmeggliapebkgaaW.PrintLast Go.Proofs.YtmeggliapebkgaaW.PrintMore
attribute [local go_sem] max2_int min2_int max_two min_two max_three min_three max_four min_four   
set_option linter.unusedVariables false
set_option linter.unusedSimpArgs false
mutual
def spec_l06Is.j0 : Nat → Bool → List Int → List (List Int) → Option (Bool)
 | 0, _, _, _ => none
 | k + 1, x17, x451002000, x451002001 => if x17 = true then (some false) else ((spec_l06Parts.f k x451002000 x451002001).bind fun t451003 => (spec_l06Is.l0 k t451003 0 x451002000 x451002001))
def spec_l06Is.l0 : Nat → List Int → Int → List Int → List (List Int) → Option (Bool)
 | 0, _, _, _, _ => none
 | k + 1, x3, x4, x451002000, x451002001 => if x4 < (x3.length : Int) then (if 0 ≤ x4 then (if (rd x3 x4) ≥ (x451002000.length : Int) then (some false) else (spec_l06Is.l0 k x3 (wrap64 (x4 + 1)) x451002000 x451002001)) else (none)) else (some true)
end
def spec_l06Is.f (k : Nat) (l0_0 : List Int) (l0_1 : List (List Int)) : Option (Bool) := if (wrap64 ((l0_0.length : Int) + (l0_1.length : Int))) > 8 then (spec_l06Is.j0 k true l0_0 l0_1) else ((spec_l06Twice.f k l0_0 l0_1).bind fun t451002 => (spec_l06Is.j0 k (!t451002) l0_0 l0_1))
theorem spec_l06Is.mono_l : ∀ k, (∀ y0 y1 y2, LeO (spec_l06Is.j0 k y0 y1 y2) (spec_l06Is.j0 (k + 1) y0 y1 y2)) ∧ (∀ y0 y1 y2 y3, LeO (spec_l06Is.l0 k y0 y1 y2 y3) (spec_l06Is.l0 (k + 1) y0 y1 y2 y3))
 | 0 => ⟨fun _ _ _ r h => by simp [spec_l06Is.j0] at h, fun _ _ _ _ r h => by simp [spec_l06Is.l0] at h⟩
 | k + 1 => by
  obtain ⟨ih0, ih1⟩ := spec_l06Is.mono_l k
  refine ⟨?_, ?_⟩
  ·intro y0 y1 y2
   unfold spec_l06Is.j0
   repeat' first
   | (with_reducible exact ih0 _ _ _)
   | (with_reducible exact ih1 _ _ _ _)
   | (with_reducible exact spec_l06Parts.mono _ _ _)
   | (with_reducible exact spec_l06Twice.mono _ _ _)
   | (with_reducible exact LeO.refl _)
   | (with_reducible exact LeO.none _)
   | (with_reducible refine LeO.ite ?_ ?_)
   | (with_reducible refine LeO.bind ?_ (fun _ => ?_))
   | exact ih0 _ _ _
   | exact ih1 _ _ _ _
   | exact spec_l06Parts.mono _ _ _
   | exact spec_l06Twice.mono _ _ _
   | exact LeO.none _
   | refine LeO.ite ?_ ?_
   | refine LeO.bind ?_ (fun _ => ?_)
  ·intro y0 y1 y2 y3
   unfold spec_l06Is.l0
   repeat' first
   | (with_reducible exact ih0 _ _ _)
   | (with_reducible exact ih1 _ _ _ _)
   | (with_reducible exact spec_l06Parts.mono _ _ _)
   | (with_reducible exact spec_l06Twice.mono _ _ _)
   | (with_reducible exact LeO.refl _)
   | (with_reducible exact LeO.none _)
   | (with_reducible refine LeO.ite ?_ ?_)
   | (with_reducible refine LeO.bind ?_ (fun _ => ?_))
   | exact ih0 _ _ _
   | exact ih1 _ _ _ _
   | exact spec_l06Parts.mono _ _ _
   | exact spec_l06Twice.mono _ _ _
   | exact LeO.none _
   | refine LeO.ite ?_ ?_
   | refine LeO.bind ?_ (fun _ => ?_)
theorem spec_l06Is.mono : ∀ a0 a1 k, LeO (spec_l06Is.f k a0 a1) (spec_l06Is.f (k + 1) a0 a1) := by
 intro a0 a1 k
 obtain ⟨ih0, ih1⟩ := spec_l06Is.mono_l k
 unfold spec_l06Is.f
 repeat' first
   | (with_reducible exact ih0 _ _ _)
   | (with_reducible exact ih1 _ _ _ _)
   | (with_reducible exact spec_l06Parts.mono _ _ _)
   | (with_reducible exact spec_l06Twice.mono _ _ _)
   | (with_reducible exact LeO.refl _)
   | (with_reducible exact LeO.none _)
   | (with_reducible refine LeO.ite ?_ ?_)
   | (with_reducible refine LeO.bind ?_ (fun _ => ?_))
   | exact ih0 _ _ _
   | exact ih1 _ _ _ _
   | exact spec_l06Parts.mono _ _ _
   | exact spec_l06Twice.mono _ _ _
   | exact LeO.none _
   | refine LeO.ite ?_ ?_
   | refine LeO.bind ?_ (fun _ => ?_)
set_option maxHeartbeats 8000000 in
set_option maxRecDepth 100000 in
theorem spec_l06Is.calls (k : Nat) (A0_0 : Option Addr) (c0_0 : Nat) (l0_0 : List Int) (A0_1 : Option Addr) (c0_1 : Nat) (l0_1 : List (List Int)) (r : Bool) (w : World) (hr0_0 : Kd.C (Kd.int .i64) w A0_0 l0_0.length l0_0) (hc0_0 : l0_0.length ≤ c0_0) (hr0_1 : Kd.C (Kd.slice 2 (Kd.int .i64)) w A0_1 l0_1.length l0_1) (hc0_1 : l0_1.length ≤ c0_1) (h : spec_l06Is.f k l0_0 l0_1 = some r) :
  Calls Try.prog 45 #[.agg #[.slice A0_0 l0_0.length c0_0, .slice A0_1 l0_1.length c0_1]] w fun e w' => e = .returned (.bool r) ∧ Below w.heap.size w w' := by
 have hu30 := Try.underlying30
 have HR0_0 := Aside0.mk hr0_0
 have HC0_0 := Aside0.mk hc0_0
 clear hr0_0 hc0_0
 have HR0_1 := Aside0.mk hr0_1
 have HC0_1 := Aside0.mk hc0_1
 clear hr0_1 hc0_1
 have HB := Aside0.mk (Below.refl w.heap.size w)
 have H : (if (wrap64 ((l0_0.length : Int) + (l0_1.length : Int))) > 8 then (spec_l06Is.j0 k true l0_0 l0_1) else ((spec_l06Twice.f k l0_0 l0_1).bind fun t451002 => (spec_l06Is.j0 k (!t451002) l0_0 l0_1))) = some r := h
 clear h
 have HC2 := Aside0.mk H
 clear H
 go_enter Try.func45, Try.ntmps45
 go_upto_region 1 with (first | ((with_reducible refine gate_dst (N := 1) rfl ?_); refine box_event ?hg (N := 1) ?hd (cs := #[.slice A0_0 l0_0.length c0_0, .slice A0_1 l0_1.length c0_1]) (t := 30) ?hr ?_; (case hd => rfl); (case hg => rfl); (case hr => first | (go_simp; done) | (go_simp; rfl)); intro gb451001 hg w3 hbox hb; have n0_ := Aside0.mk (below_step (by repeat (first | (with_reducible first | exact HB.out | apply below_alloc | apply pw_below_drewN | apply below_drew1) | exact HB.out)) hb); have n1_ := Aside0.mk (hbox); have n2_ := Aside0.mk ((by rw [hg]; exact (below_size (by repeat (first | (with_reducible first | exact HB.out | apply below_alloc | apply pw_below_drewN | apply below_drew1) | exact HB.out))) : w.heap.size ≤ gb451001)); have n3_ := Aside0.mk ((by rw [hg]; exact (below_size (by repeat (first | (with_reducible first | exact HB.out | apply below_alloc | apply pw_below_drewN | apply below_drew1) | exact HB.out))) : w.heap.size ≤ gb451001)); clear HB; have HB := n0_; have BK451001 := n1_; have GW451001 := n2_; have GE451001 := n3_; clear n0_ n1_ n2_ n3_; clear hb hbox hg))
 repeat (go_quiet (first | ((with_reducible refine gate_dst (N := 1) rfl ?_); refine box_event ?hg (N := 1) ?hd (cs := #[.slice A0_0 l0_0.length c0_0, .slice A0_1 l0_1.length c0_1]) (t := 30) ?hr ?_; (case hd => rfl); (case hg => rfl); (case hr => first | (go_simp; done) | (go_simp; rfl)); intro gb451001 hg w3 hbox hb; have n0_ := Aside0.mk (below_step (by repeat (first | (with_reducible first | exact HB.out | apply below_alloc | apply pw_below_drewN | apply below_drew1) | exact HB.out)) hb); have n1_ := Aside0.mk (hbox); have n2_ := Aside0.mk ((by rw [hg]; exact (below_size (by repeat (first | (with_reducible first | exact HB.out | apply below_alloc | apply pw_below_drewN | apply below_drew1) | exact HB.out))) : w.heap.size ≤ gb451001)); have n3_ := Aside0.mk ((by rw [hg]; exact (below_size (by repeat (first | (with_reducible first | exact HB.out | apply below_alloc | apply pw_below_drewN | apply below_drew1) | exact HB.out))) : w.heap.size ≤ gb451001)); clear HB; have HB := n0_; have BK451001 := n1_; have GW451001 := n2_; have GE451001 := n3_; clear n0_ n1_ n2_ n3_; clear hb hbox hg)); go_upto_region 1 with (first | ((with_reducible refine gate_dst (N := 1) rfl ?_); refine box_event ?hg (N := 1) ?hd (cs := #[.slice A0_0 l0_0.length c0_0, .slice A0_1 l0_1.length c0_1]) (t := 30) ?hr ?_; (case hd => rfl); (case hg => rfl); (case hr => first | (go_simp; done) | (go_simp; rfl)); intro gb451001 hg w3 hbox hb; have n0_ := Aside0.mk (below_step (by repeat (first | (with_reducible first | exact HB.out | apply below_alloc | apply pw_below_drewN | apply below_drew1) | exact HB.out)) hb); have n1_ := Aside0.mk (hbox); have n2_ := Aside0.mk ((by rw [hg]; exact (below_size (by repeat (first | (with_reducible first | exact HB.out | apply below_alloc | apply pw_below_drewN | apply below_drew1) | exact HB.out))) : w.heap.size ≤ gb451001)); have n3_ := Aside0.mk ((by rw [hg]; exact (below_size (by repeat (first | (with_reducible first | exact HB.out | apply below_alloc | apply pw_below_drewN | apply below_drew1) | exact HB.out))) : w.heap.size ≤ gb451001)); clear HB; have HB := n0_; have BK451001 := n1_; have GW451001 := n2_; have GE451001 := n3_; clear n0_ n1_ n2_ n3_; clear hb hbox hg)))
 (try simp only [Act.put, List.setIfInBounds_toArray, List.set_cons_zero, List.set_cons_succ])
 go_cut [17] (fun v17 wc => ∃ (kq : Nat) (x17_1 : Bool), v17 = .bool x17_1 ∧ Aside0 (spec_l06Is.j0 kq x17_1 l0_0 l0_1 = some r) ∧ Aside0 (kq ≤ k) ∧ Aside0 (wc.heap[gb451001]? = some (.cells #[(.slice A0_0 l0_0.length c0_0), (.slice A0_1 l0_1.length c0_1)] 30 (0, 0))) ∧ Aside0 (Below w.heap.size w wc))
 case first =>
  have H := HC2.out
  clear HC2
  by_cases c4 : (wrap64 ((l0_0.length : Int) + (l0_1.length : Int))) > 8
  ·rw [if_pos c4] at H
   have c4b0 : decide (8 < (wrap64 ((l0_0.length : Int) + (l0_1.length : Int)))) = true := decide_eq_true c4
   clear c4
   (first | rw [c4b0] | (simp only [i64_w, i32_w]; rw [c4b0]) | skip)
   have H' := Aside0.mk H
   clear H
   have hcz5_0 : w3.cell? ⟨gb451001, 0, none⟩ = some (.slice A0_0 l0_0.length c0_0) := (blk_cell BK451001.out 0).trans rfl
   have hcz5_1 : w3.cell? ⟨gb451001, 1, none⟩ = some (.slice A0_1 l0_1.length c0_1) := (blk_cell BK451001.out 1).trans rfl
   have hfz5_0 := blk_frozen BK451001.out 0
   have hfz5_1 := blk_frozen BK451001.out 1
   go_wp2
   repeat (go_quiet (fail); try go_wp2)
   go_meet
   case rel => exact ⟨_, (true), (by first | rfl | (simp; done) | (simp [*]; done)), H', ⟨by first | omega | exact Nat.le_refl _⟩, ⟨by (with_reducible repeat (first | refine blk_drewN ?_ _ | refine blk_drew ?_ | refine blk_alloc ?_ _)); exact BK451001.out⟩, ⟨by repeat (first | (with_reducible first | exact HB.out | apply below_alloc | apply pw_below_drewN | apply below_drew1 | refine below_set ?_ GE451001.out) | exact HB.out)⟩⟩
  rw [if_neg c4] at H
  have c4b0 : decide (8 < (wrap64 ((l0_0.length : Int) + (l0_1.length : Int)))) = false := decide_eq_false c4
  clear c4
  (first | rw [c4b0] | (simp only [i64_w, i32_w]; rw [c4b0]) | skip)
  replace H := Option.bind_eq_some_iff.mp H
  obtain ⟨t451002, A60, H⟩ := H
  replace H : (spec_l06Is.j0 k (!t451002) l0_0 l0_1) = some r := H
  have A6 := Aside0.mk A60
  clear A60
  have H' := Aside0.mk H
  clear H
  have hcz7_0 : w3.cell? ⟨gb451001, 0, none⟩ = some (.slice A0_0 l0_0.length c0_0) := (blk_cell BK451001.out 0).trans rfl
  have hcz7_1 : w3.cell? ⟨gb451001, 1, none⟩ = some (.slice A0_1 l0_1.length c0_1) := (blk_cell BK451001.out 1).trans rfl
  have hfz7_0 := blk_frozen BK451001.out 0
  have hfz7_1 := blk_frozen BK451001.out 1
  go_wp2_with (first | (go_at_call 98; (with_reducible refine (spec_l06Twice.calls k _ _ l0_0 _ _ l0_1 t451002 _ ?side1 ?side2 ?side3 ?side4 A6.out).mono ?_); (case side1 => repeat (first | exact (Kd.C_below HR0_0.out HB.out) | (with_reducible refine Kd.C_alloc ?_ _) | (with_reducible refine Kd.C_drewN ?_ _) | (with_reducible refine Kd.C_drew ?_))); (case side2 => exact HC0_0.out); (case side3 => repeat (first | exact (Kd.C_below HR0_1.out HB.out) | (with_reducible refine Kd.C_alloc ?_ _) | (with_reducible refine Kd.C_drewN ?_ _) | (with_reducible refine Kd.C_drew ?_))); (case side4 => exact HC0_1.out); rintro e w8 ⟨rfl, hb⟩; have n0_ := Aside0.mk (blk_below (g := gb451001) (o := .cells #[.slice A0_0 l0_0.length c0_0, .slice A0_1 l0_1.length c0_1] 30 (0, 0)) (by (with_reducible repeat (first | refine blk_drewN ?_ _ | refine blk_drew ?_ | refine blk_alloc ?_ _)); exact BK451001.out) hb); have n1_ := Aside0.mk (below_step (by repeat (first | (with_reducible first | exact HB.out | apply below_alloc | apply pw_below_drewN | apply below_drew1 | refine below_set ?_ GE451001.out) | exact HB.out)) hb); clear BK451001; clear HB; have BK451001 := n0_; have HB := n1_; clear n0_ n1_; (try clear hb); (try clear hb2); (try clear hk); (try clear hi)))
  repeat (go_quiet (first | (go_at_call 98; (with_reducible refine (spec_l06Twice.calls k _ _ l0_0 _ _ l0_1 t451002 _ ?side1 ?side2 ?side3 ?side4 A6.out).mono ?_); (case side1 => repeat (first | exact (Kd.C_below HR0_0.out HB.out) | (with_reducible refine Kd.C_alloc ?_ _) | (with_reducible refine Kd.C_drewN ?_ _) | (with_reducible refine Kd.C_drew ?_))); (case side2 => exact HC0_0.out); (case side3 => repeat (first | exact (Kd.C_below HR0_1.out HB.out) | (with_reducible refine Kd.C_alloc ?_ _) | (with_reducible refine Kd.C_drewN ?_ _) | (with_reducible refine Kd.C_drew ?_))); (case side4 => exact HC0_1.out); rintro e w8 ⟨rfl, hb⟩; have n0_ := Aside0.mk (blk_below (g := gb451001) (o := .cells #[.slice A0_0 l0_0.length c0_0, .slice A0_1 l0_1.length c0_1] 30 (0, 0)) (by (with_reducible repeat (first | refine blk_drewN ?_ _ | refine blk_drew ?_ | refine blk_alloc ?_ _)); exact BK451001.out) hb); have n1_ := Aside0.mk (below_step (by repeat (first | (with_reducible first | exact HB.out | apply below_alloc | apply pw_below_drewN | apply below_drew1 | refine below_set ?_ GE451001.out) | exact HB.out)) hb); clear BK451001; clear HB; have BK451001 := n0_; have HB := n1_; clear n0_ n1_; (try clear hb); (try clear hb2); (try clear hk); (try clear hi))); try go_wp2_with (first | (go_at_call 98; (with_reducible refine (spec_l06Twice.calls k _ _ l0_0 _ _ l0_1 t451002 _ ?side1 ?side2 ?side3 ?side4 A6.out).mono ?_); (case side1 => repeat (first | exact (Kd.C_below HR0_0.out HB.out) | (with_reducible refine Kd.C_alloc ?_ _) | (with_reducible refine Kd.C_drewN ?_ _) | (with_reducible refine Kd.C_drew ?_))); (case side2 => exact HC0_0.out); (case side3 => repeat (first | exact (Kd.C_below HR0_1.out HB.out) | (with_reducible refine Kd.C_alloc ?_ _) | (with_reducible refine Kd.C_drewN ?_ _) | (with_reducible refine Kd.C_drew ?_))); (case side4 => exact HC0_1.out); rintro e w8 ⟨rfl, hb⟩; have n0_ := Aside0.mk (blk_below (g := gb451001) (o := .cells #[.slice A0_0 l0_0.length c0_0, .slice A0_1 l0_1.length c0_1] 30 (0, 0)) (by (with_reducible repeat (first | refine blk_drewN ?_ _ | refine blk_drew ?_ | refine blk_alloc ?_ _)); exact BK451001.out) hb); have n1_ := Aside0.mk (below_step (by repeat (first | (with_reducible first | exact HB.out | apply below_alloc | apply pw_below_drewN | apply below_drew1 | refine below_set ?_ GE451001.out) | exact HB.out)) hb); clear BK451001; clear HB; have BK451001 := n0_; have HB := n1_; clear n0_ n1_; (try clear hb); (try clear hb2); (try clear hk); (try clear hi))))
  go_meet
  case rel => exact ⟨_, (!t451002), (by first | rfl | (simp; done) | (simp [*]; done)), H', ⟨by first | omega | exact Nat.le_refl _⟩, ⟨by (with_reducible repeat (first | refine blk_drewN ?_ _ | refine blk_drew ?_ | refine blk_alloc ?_ _)); exact BK451001.out⟩, ⟨by repeat (first | (with_reducible first | exact HB.out | apply below_alloc | apply pw_below_drewN | apply below_drew1 | refine below_set ?_ GE451001.out) | exact HB.out)⟩⟩
 case rest =>
  clear HC2
  try clear p2
  try clear c4
  try clear c4b0
  try clear p6
  try clear hcz5_0
  try clear hcz5_1
  try clear hcz7_0
  try clear hcz7_1
  try clear hfz5_0
  try clear hfz5_1
  try clear hfz7_0
  try clear hfz7_1
  obtain ⟨kq, x17_1, rfl, HA, HJ1, BK451001, HB⟩ := hcut
  cases kq with
  | zero => exact absurd HA.out (by simp [spec_l06Is.j0])
  | succ kj1 =>
   have H := HA.out
   clear HA
   simp only [spec_l06Is.j0] at H
   by_cases c9 : x17_1 = true
   ·subst c9
    have H1 : (some false) = some r := by rw [if_pos rfl] at H; exact H
    clear H
    have H := H1
    clear H1
    obtain rfl := Option.some.inj H
    go_wp2
    repeat (go_quiet (fail); try go_wp2)
    go_ret
    exact ⟨by first | rfl | (simp [errW_none, errW_some] <;> rfl) | (simp [*, errW_none, errW_some] <;> rfl), by repeat (first | (with_reducible first | exact HB.out | apply below_alloc | apply pw_below_drewN | apply below_drew1 | refine below_set ?_ GE451001.out) | exact HB.out)⟩
   replace c9 := Bool.eq_false_iff.mpr c9
   subst c9
   have H1 : ((spec_l06Parts.f kj1 l0_0 l0_1).bind fun t451003 => (spec_l06Is.l0 kj1 t451003 0 l0_0 l0_1)) = some r := by rw [if_neg (show ¬ (false = true) by decide)] at H; exact H
   clear H
   have H := H1
   clear H1
   replace H := Option.bind_eq_some_iff.mp H
   obtain ⟨t451003, A100, H⟩ := H
   replace H : (spec_l06Is.l0 kj1 t451003 0 l0_0 l0_1) = some r := H
   have A10 := Aside0.mk A100
   clear A100
   have H' := Aside0.mk H
   clear H
   have hcz11_0 : wc.cell? ⟨gb451001, 0, none⟩ = some (.slice A0_0 l0_0.length c0_0) := (blk_cell BK451001.out 0).trans rfl
   have hcz11_1 : wc.cell? ⟨gb451001, 1, none⟩ = some (.slice A0_1 l0_1.length c0_1) := (blk_cell BK451001.out 1).trans rfl
   have hfz11_0 := blk_frozen BK451001.out 0
   have hfz11_1 := blk_frozen BK451001.out 1
   go_wp2_with (first | (go_at_call 99; (with_reducible refine (spec_l06Parts.calls kj1 _ _ l0_0 _ _ l0_1 t451003 _ ?side1 ?side2 ?side3 ?side4 A10.out).mono ?_); (case side1 => repeat (first | exact (Kd.C_below HR0_0.out HB.out) | (with_reducible refine Kd.C_alloc ?_ _) | (with_reducible refine Kd.C_drewN ?_ _) | (with_reducible refine Kd.C_drew ?_))); (case side2 => exact HC0_0.out); (case side3 => repeat (first | exact (Kd.C_below HR0_1.out HB.out) | (with_reducible refine Kd.C_alloc ?_ _) | (with_reducible refine Kd.C_drewN ?_ _) | (with_reducible refine Kd.C_drew ?_))); (case side4 => exact HC0_1.out); rintro e w12 ⟨v451004, rfl, ho0, hb⟩; have n0_ := Aside0.mk (Kd.R_lower ho0 (below_size (by repeat (first | (with_reducible first | exact HB.out | apply below_alloc | apply pw_below_drewN | apply below_drew1 | refine below_set ?_ GE451001.out) | exact HB.out)))); have n1_ := Aside0.mk (blk_below (g := gb451001) (o := .cells #[.slice A0_0 l0_0.length c0_0, .slice A0_1 l0_1.length c0_1] 30 (0, 0)) (by (with_reducible repeat (first | refine blk_drewN ?_ _ | refine blk_drew ?_ | refine blk_alloc ?_ _)); exact BK451001.out) hb); have n2_ := Aside0.mk (below_step (by repeat (first | (with_reducible first | exact HB.out | apply below_alloc | apply pw_below_drewN | apply below_drew1 | refine below_set ?_ GE451001.out) | exact HB.out)) hb); clear BK451001; clear HB; have HO451005 := n0_; have BK451001 := n1_; have HB := n2_; clear n0_ n1_ n2_; (try clear hb); (try clear hb2); (try clear hk); (try clear hi); (try clear ho0)))
   repeat (go_quiet (first | (go_at_call 99; (with_reducible refine (spec_l06Parts.calls kj1 _ _ l0_0 _ _ l0_1 t451003 _ ?side1 ?side2 ?side3 ?side4 A10.out).mono ?_); (case side1 => repeat (first | exact (Kd.C_below HR0_0.out HB.out) | (with_reducible refine Kd.C_alloc ?_ _) | (with_reducible refine Kd.C_drewN ?_ _) | (with_reducible refine Kd.C_drew ?_))); (case side2 => exact HC0_0.out); (case side3 => repeat (first | exact (Kd.C_below HR0_1.out HB.out) | (with_reducible refine Kd.C_alloc ?_ _) | (with_reducible refine Kd.C_drewN ?_ _) | (with_reducible refine Kd.C_drew ?_))); (case side4 => exact HC0_1.out); rintro e w12 ⟨v451004, rfl, ho0, hb⟩; have n0_ := Aside0.mk (Kd.R_lower ho0 (below_size (by repeat (first | (with_reducible first | exact HB.out | apply below_alloc | apply pw_below_drewN | apply below_drew1 | refine below_set ?_ GE451001.out) | exact HB.out)))); have n1_ := Aside0.mk (blk_below (g := gb451001) (o := .cells #[.slice A0_0 l0_0.length c0_0, .slice A0_1 l0_1.length c0_1] 30 (0, 0)) (by (with_reducible repeat (first | refine blk_drewN ?_ _ | refine blk_drew ?_ | refine blk_alloc ?_ _)); exact BK451001.out) hb); have n2_ := Aside0.mk (below_step (by repeat (first | (with_reducible first | exact HB.out | apply below_alloc | apply pw_below_drewN | apply below_drew1 | refine below_set ?_ GE451001.out) | exact HB.out)) hb); clear BK451001; clear HB; have HO451005 := n0_; have BK451001 := n1_; have HB := n2_; clear n0_ n1_ n2_; (try clear hb); (try clear hb2); (try clear hk); (try clear hi); (try clear ho0))); try go_wp2_with (first | (go_at_call 99; (with_reducible refine (spec_l06Parts.calls kj1 _ _ l0_0 _ _ l0_1 t451003 _ ?side1 ?side2 ?side3 ?side4 A10.out).mono ?_); (case side1 => repeat (first | exact (Kd.C_below HR0_0.out HB.out) | (with_reducible refine Kd.C_alloc ?_ _) | (with_reducible refine Kd.C_drewN ?_ _) | (with_reducible refine Kd.C_drew ?_))); (case side2 => exact HC0_0.out); (case side3 => repeat (first | exact (Kd.C_below HR0_1.out HB.out) | (with_reducible refine Kd.C_alloc ?_ _) | (with_reducible refine Kd.C_drewN ?_ _) | (with_reducible refine Kd.C_drew ?_))); (case side4 => exact HC0_1.out); rintro e w12 ⟨v451004, rfl, ho0, hb⟩; have n0_ := Aside0.mk (Kd.R_lower ho0 (below_size (by repeat (first | (with_reducible first | exact HB.out | apply below_alloc | apply pw_below_drewN | apply below_drew1 | refine below_set ?_ GE451001.out) | exact HB.out)))); have n1_ := Aside0.mk (blk_below (g := gb451001) (o := .cells #[.slice A0_0 l0_0.length c0_0, .slice A0_1 l0_1.length c0_1] 30 (0, 0)) (by (with_reducible repeat (first | refine blk_drewN ?_ _ | refine blk_drew ?_ | refine blk_alloc ?_ _)); exact BK451001.out) hb); have n2_ := Aside0.mk (below_step (by repeat (first | (with_reducible first | exact HB.out | apply below_alloc | apply pw_below_drewN | apply below_drew1 | refine below_set ?_ GE451001.out) | exact HB.out)) hb); clear BK451001; clear HB; have HO451005 := n0_; have BK451001 := n1_; have HB := n2_; clear n0_ n1_ n2_; (try clear hb); (try clear hb2); (try clear hk); (try clear hi); (try clear ho0))))
   go_loopg [4] kj1 (fun kq v4 w' => ∃ (x4_2 : Int), v4 = .int .i64 x4_2 ∧ Aside0 (spec_l06Is.l0 kq t451003 x4_2 l0_0 l0_1 = some r) ∧ Aside0 (kq ≤ kj1) ∧ Aside0 (Kd.R (Kd.int .i64) 3 w' w.heap.size (fun _ => True) v451004 t451003) ∧ Aside0 (w'.heap[gb451001]? = some (.cells #[(.slice A0_0 l0_0.length c0_0), (.slice A0_1 l0_1.length c0_1)] 30 (0, 0))) ∧ Aside0 (Below w.heap.size w w'))
   case atStart => exact ⟨(0), (by first | rfl | (simp; done) | (simp [*]; done)), H', ⟨Nat.le_refl _⟩, ⟨by (with_reducible repeat (first | apply Kd.R_alloc | apply Kd.R_drewN | apply Kd.R_drew)); exact HO451005.out⟩, ⟨by (with_reducible repeat (first | refine blk_drewN ?_ _ | refine blk_drew ?_ | refine blk_alloc ?_ _)); exact BK451001.out⟩, ⟨by repeat (first | (with_reducible first | exact HB.out | apply below_alloc | apply pw_below_drewN | apply below_drew1 | refine below_set ?_ GE451001.out) | exact HB.out)⟩⟩
   case round =>
    clear H'
    try clear p2
    try clear c4
    try clear c4b0
    try clear p6
    try clear c9
    try clear hcz11_0
    try clear hcz11_1
    try clear hcz5_0
    try clear hcz5_1
    try clear hcz7_0
    try clear hcz7_1
    try clear hfz11_0
    try clear hfz11_1
    try clear hfz5_0
    try clear hfz5_1
    try clear hfz7_0
    try clear hfz7_1
    try clear p2
    try clear p6
    obtain ⟨x4_2, rfl, HA, HK2, HO_3, BK451001, HB⟩ := hrel
    cases gk with
    | zero => exact absurd HA.out (by simp [spec_l06Is.l0])
    | succ k2 =>
     have H := HA.out
     clear HA
     simp only [spec_l06Is.l0] at H
     by_cases c13 : x4_2 < (t451003.length : Int)
     rotate_left
     ·rw [if_neg c13] at H
      have c13b0 : decide (x4_2 < (t451003.length : Int)) = false := decide_eq_false c13
      clear c13
      obtain rfl := Option.some.inj H
      obtain ⟨Ao20, co20, eo20⟩ := Kd.R_slice HO_3.out
      subst eo20
      go_wp2
      repeat (go_quiet (fail); try go_wp2)
      go_ret
      exact ⟨by first | rfl | (simp [errW_none, errW_some] <;> rfl) | (simp [*, errW_none, errW_some] <;> rfl), by repeat (first | (with_reducible first | exact HB.out | apply below_alloc | apply pw_below_drewN | apply below_drew1 | refine below_set ?_ GE451001.out) | exact HB.out)⟩
     rw [if_pos c13] at H
     have c13b0 : decide (x4_2 < (t451003.length : Int)) = true := decide_eq_true c13
     clear c13
     by_cases c14 : 0 ≤ x4_2
     rotate_left
     ·rw [if_neg c14] at H
      exact absurd H (by simp)
     rw [if_pos c14] at H
     have c14b0 : decide (0 ≤ x4_2) = true := decide_eq_true c14
     clear c14
     by_cases c15 : (rd t451003 x4_2) ≥ (l0_0.length : Int)
     ·rw [if_pos c15] at H
      have c15b0 : decide ((l0_0.length : Int) ≤ (rd t451003 x4_2)) = true := decide_eq_true c15
      clear c15
      obtain rfl := Option.some.inj H
      obtain ⟨Ao16, co16, eo16⟩ := Kd.R_slice HO_3.out
      subst eo16
      have p451006 : 0 ≤ (x4_2 : Int) := of_decide_eq_true (by first | (with_reducible assumption) | assumption)
      have q451006 : x4_2 < (t451003.length : Int) := of_decide_eq_true (by first | (with_reducible assumption) | assumption)
      obtain ⟨ad451006, e451006, hx451006_0⟩ := Kd.at_int (Kd.R_reads' HO_3.out).2.2 x4_2 p451006 q451006
      cases e451006
      replace p451006 := eq_true p451006
      replace q451006 := eq_true q451006
      have hcz17_0 : wr.cell? ⟨gb451001, 0, none⟩ = some (.slice A0_0 l0_0.length c0_0) := (blk_cell BK451001.out 0).trans rfl
      have hcz17_1 : wr.cell? ⟨gb451001, 1, none⟩ = some (.slice A0_1 l0_1.length c0_1) := (blk_cell BK451001.out 1).trans rfl
      have hfz17_0 := blk_frozen BK451001.out 0
      have hfz17_1 := blk_frozen BK451001.out 1
      go_wp2
      repeat (go_quiet (fail); try go_wp2)
      go_ret
      exact ⟨by first | rfl | (simp [errW_none, errW_some] <;> rfl) | (simp [*, errW_none, errW_some] <;> rfl), by repeat (first | (with_reducible first | exact HB.out | apply below_alloc | apply pw_below_drewN | apply below_drew1 | refine below_set ?_ GE451001.out) | exact HB.out)⟩
     rw [if_neg c15] at H
     have c15b0 : decide ((l0_0.length : Int) ≤ (rd t451003 x4_2)) = false := decide_eq_false c15
     clear c15
     have H' := Aside0.mk H
     clear H
     obtain ⟨Ao18, co18, eo18⟩ := Kd.R_slice HO_3.out
     subst eo18
     have p451006 : 0 ≤ (x4_2 : Int) := of_decide_eq_true (by first | (with_reducible assumption) | assumption)
     have q451006 : x4_2 < (t451003.length : Int) := of_decide_eq_true (by first | (with_reducible assumption) | assumption)
     obtain ⟨ad451006, e451006, hx451006_0⟩ := Kd.at_int (Kd.R_reads' HO_3.out).2.2 x4_2 p451006 q451006
     cases e451006
     replace p451006 := eq_true p451006
     replace q451006 := eq_true q451006
     have hcz19_0 : wr.cell? ⟨gb451001, 0, none⟩ = some (.slice A0_0 l0_0.length c0_0) := (blk_cell BK451001.out 0).trans rfl
     have hcz19_1 : wr.cell? ⟨gb451001, 1, none⟩ = some (.slice A0_1 l0_1.length c0_1) := (blk_cell BK451001.out 1).trans rfl
     have hfz19_0 := blk_frozen BK451001.out 0
     have hfz19_1 := blk_frozen BK451001.out 1
     go_wp2
     repeat (go_quiet (fail); try go_wp2)
     go_roundg k2
     case measure => have := HJ1.out; have := HK2.out; omega
     case rel => exact ⟨(wrap64 (x4_2 + 1)), (by first | rfl | (simp; done) | (simp [*]; done)), H', ⟨by have := HJ1.out; have := HK2.out; omega⟩, ⟨by (with_reducible repeat (first | apply Kd.R_alloc | apply Kd.R_drewN | apply Kd.R_drew)); exact HO_3.out⟩, ⟨by (with_reducible repeat (first | refine blk_drewN ?_ _ | refine blk_drew ?_ | refine blk_alloc ?_ _)); exact BK451001.out⟩, ⟨by repeat (first | (with_reducible first | exact HB.out | apply below_alloc | apply pw_below_drewN | apply below_drew1 | refine below_set ?_ GE451001.out) | exact HB.out)⟩⟩
end
end Go.Proofs.Ytmeggliapebkgaa.F
end
section
namespace Go.Proofs.Ytmeggliapebkgaa.F
open Go.RowKit Go.Proofs.YtmeggliapebkgaaW.PrintWords Go.Proofs.YtmeggliapebkgaaW.PrintLast Go.Proofs.YtmeggliapebkgaaW.PrintMore
attribute [local go_sem] max2_int min2_int max_two min_two max_three min_three max_four min_four   
set_option linter.unusedVariables false
set_option linter.unusedSimpArgs false
def spec_l06Find.l0 : Nat → List Int → Int → Int → Option (Int)
  | 0, _, _, _ => none
  | k + 1, x0, x1, x5 => if x5 < (x0.length : Int) then (if 0 ≤ x5 then (if (rd x0 x5) = x1 then (some x5) else (spec_l06Find.l0 k x0 x1 (wrap64 (x5 + 1)))) else (none)) else (some (-1))
def spec_l06Find.f (k : Nat) (l0 : List Int) (a1 : Int) : Option (Int) := spec_l06Find.l0 k l0 a1 0
theorem spec_l06Find.mono_l : ∀ k, (∀ y0 y1 y2, LeO (spec_l06Find.l0 k y0 y1 y2) (spec_l06Find.l0 (k + 1) y0 y1 y2))
  | 0 => fun _ _ _ r h => by simp [spec_l06Find.l0] at h
  | k + 1 => by
    have ih0 := spec_l06Find.mono_l k
    · intro y0 y1 y2
      unfold spec_l06Find.l0
      repeat' first
      | (with_reducible exact ih0 _ _ _)
      | (with_reducible exact LeO.refl _)
      | (with_reducible exact LeO.none _)
      | (with_reducible refine LeO.ite ?_ ?_)
      | (with_reducible refine LeO.bind ?_ (fun _ => ?_))
      | exact ih0 _ _ _
      | exact LeO.none _
      | refine LeO.ite ?_ ?_
      | refine LeO.bind ?_ (fun _ => ?_)
theorem spec_l06Find.mono : ∀ a0 a1 k, LeO (spec_l06Find.f k a0 a1) (spec_l06Find.f (k + 1) a0 a1) := by
  intro a0 a1 k
  have ih0 := spec_l06Find.mono_l k
  unfold spec_l06Find.f
  repeat' first
      | (with_reducible exact ih0 _ _ _)
      | (with_reducible exact LeO.refl _)
      | (with_reducible exact LeO.none _)
      | (with_reducible refine LeO.ite ?_ ?_)
      | (with_reducible refine LeO.bind ?_ (fun _ => ?_))
      | exact ih0 _ _ _
      | exact LeO.none _
      | refine LeO.ite ?_ ?_
      | refine LeO.bind ?_ (fun _ => ?_)
set_option maxHeartbeats 8000000 in
set_option maxRecDepth 100000 in
theorem spec_l06Find.calls (k : Nat) (A0 : Option Addr) (c0 : Nat) (l0 : List Int) (a1 : Int) (r : Int) (w : World) (hr0 : Kd.C (Kd.int .i64) w A0 l0.length l0) (hc0 : l0.length ≤ c0) (h : spec_l06Find.f k l0 a1 = some r) :
    Calls Try.prog 46 #[.slice A0 l0.length c0, .int .i64 a1] w fun e w' => e = .returned (.int .i64 r) ∧ Drawn0 w w' := by
  have HR0 := Aside0.mk hr0
  have HC0 := Aside0.mk hc0
  clear hr0 hc0
  have H : (spec_l06Find.l0 k l0 a1 0) = some r := h
  clear h
  have H' := Aside0.mk H
  clear H
  go_enter Try.func46, Try.ntmps46
  go_wp2
  go_loopg [5] k (fun kq v5 w' => ∃ (x5_1 : Int), v5 = .int .i64 x5_1 ∧ Aside0 (spec_l06Find.l0 kq l0 a1 x5_1 = some r) ∧ Aside0 (kq ≤ k) ∧ Drawn0 w w')
  case atStart => exact ⟨(0), (by first | rfl | (simp; done) | (simp [*]; done)), H', ⟨Nat.le_refl _⟩, by repeat (first | exact Drawn0.refl _ | apply Drawn0.step)⟩
  case round =>
    clear H'
    try clear p2
    obtain ⟨x5_1, rfl, HA, HK1, ⟨m1, rfl⟩⟩ := hrel
    cases gk with
    | zero => exact absurd HA.out (by simp [spec_l06Find.l0])
    | succ k1 =>
      have H := HA.out
      clear HA
      simp only [spec_l06Find.l0] at H
      by_cases c3 : x5_1 < (l0.length : Int)
      rotate_left
      · rw [if_neg c3] at H
        have c3b0 : decide (x5_1 < (l0.length : Int)) = false := decide_eq_false c3
        clear c3
        obtain rfl := Option.some.inj H
        go_wp2
        go_ret
        exact ⟨by first | rfl | (simp; done) | (simp [*]; done), by repeat (first | exact Drawn0.refl _ | apply Drawn0.step)⟩
      rw [if_pos c3] at H
      have c3b0 : decide (x5_1 < (l0.length : Int)) = true := decide_eq_true c3
      clear c3
      by_cases c4 : 0 ≤ x5_1
      rotate_left
      · rw [if_neg c4] at H
        exact absurd H (by simp)
      rw [if_pos c4] at H
      have c4b0 : decide (0 ≤ x5_1) = true := decide_eq_true c4
      clear c4
      by_cases c5 : (rd l0 x5_1) = a1
      · rw [if_pos c5] at H
        have c5b0 : ((rd l0 x5_1) == a1) = true := beq_iff_eq.mpr c5
        have c5b1 : ((rd l0 x5_1) != a1) = false := bne_eq_false_iff_eq.mpr c5
        clear c5
        obtain rfl := Option.some.inj H
        have p461001 : 0 ≤ (x5_1 : Int) := of_decide_eq_true (by first | (with_reducible assumption) | assumption)
        have q461001 : x5_1 < (l0.length : Int) := of_decide_eq_true (by first | (with_reducible assumption) | assumption)
        obtain ⟨ad461001, e461001, hx461001_0⟩ := Kd.at_int HR0.out x5_1 p461001 q461001
        cases e461001
        replace p461001 := eq_true p461001
        replace q461001 := eq_true q461001
        go_wp2
        go_ret
        exact ⟨by first | rfl | (simp; done) | (simp [*]; done), by repeat (first | exact Drawn0.refl _ | apply Drawn0.step)⟩
      rw [if_neg c5] at H
      have c5b0 : ((rd l0 x5_1) == a1) = false := beq_eq_false_iff_ne.mpr c5
      have c5b1 : ((rd l0 x5_1) != a1) = true := bne_iff_ne.mpr c5
      have H' := Aside0.mk H
      clear H
      have p461001 : 0 ≤ (x5_1 : Int) := of_decide_eq_true (by first | (with_reducible assumption) | assumption)
      have q461001 : x5_1 < (l0.length : Int) := of_decide_eq_true (by first | (with_reducible assumption) | assumption)
      obtain ⟨ad461001, e461001, hx461001_0⟩ := Kd.at_int HR0.out x5_1 p461001 q461001
      cases e461001
      replace p461001 := eq_true p461001
      replace q461001 := eq_true q461001
      go_wp2
      go_roundg k1
      case measure => have := HK1.out; omega
      case rel => exact ⟨(wrap64 (x5_1 + 1)), (by first | rfl | (simp; done) | (simp [*]; done)), H', ⟨by have := HK1.out; omega⟩, by repeat (first | exact Drawn0.refl _ | apply Drawn0.step)⟩
end Go.Proofs.Ytmeggliapebkgaa.F
end
section
namespace Go.Proofs.Ytmeggliapebkgaa.F
abbrev bqFx47_0 : Array Bool := #[false, false, false, false, false, false, false, false, false, false, false, false]
abbrev bqFx47_1 : Array Bool := #[true, false, false, false, false, false, false, false, false, false, false, false]
abbrev bqFx47_2 : Array Bool := #[true, false, true, false, false, false, false, false, false, false, false, false]
abbrev bqFx47_3 : Array Bool := #[true, false, true, false, true, false, false, false, false, false, false, false]
abbrev bqFx47_4 : Array Bool := #[true, true, true, false, true, false, false, false, false, false, false, false]
abbrev bqFx47_5 : Array Bool := #[true, true, true, true, true, false, false, false, false, false, false, false]
abbrev bqFx47_6 : Array Bool := #[true, true, true, true, true, true, false, false, false, false, false, false]
abbrev bqFx47_7 : Array Bool := #[true, true, true, true, true, true, true, false, false, false, false, false]
abbrev bqFx47_8 : Array Bool := #[true, true, true, true, true, true, true, true, false, false, false, false]
abbrev bqFx47_9 : Array Bool := #[true, true, true, true, true, true, true, true, true, false, false, false]
abbrev bqFx47_10 : Array Bool := #[true, true, true, true, true, true, true, true, true, true, false, false]
abbrev bqFx47_11 : Array Bool := #[true, true, true, true, true, true, true, true, true, true, true, false]
abbrev bqFx47_12 : Array Bool := #[true, true, true, true, true, true, true, true, true, true, true, true]
open Go.RowKit Go.Proofs.YtmeggliapebkgaaW.PrintWords Go.Proofs.YtmeggliapebkgaaW.PrintLast Go.Proofs.YtmeggliapebkgaaW.PrintMore
attribute [local go_sem] max2_int min2_int max_two min_two max_three min_three max_four min_four   
set_option linter.unusedVariables false
set_option linter.unusedSimpArgs false
def spec_l06Copy.l0 : Nat → Int → List Int → List (List Int) → List Int → List (List Int) → Option (List Int × (List (List Int)))
 | 0, _, _, _, _, _ => none
 | k + 1, x4, x471002000, x471002001, x471010000, x471010001 => if x4 < (x471002001.length : Int) then (if 0 ≤ x4 then ((spec_l01Own.f (rd_L1 x471002001 x4)).bind fun t471011 => (if x471010001.length < 5864062014805 then (spec_l06Copy.l0 k (wrap64 (x4 + 1)) x471002000 x471002001 x471010000 (x471010001 ++ [t471011])) else (none))) else (none)) else (some (x471010000, x471010001))
def spec_l06Copy.f (k : Nat) (l0_0 : List Int) (l0_1 : List (List Int)) : Option (List Int × (List (List Int))) := (spec_l01Own.f l0_0).bind fun t471003 => (spec_l06Copy.l0 k 0 l0_0 l0_1 t471003 (([] : List (List Int))))
theorem spec_l06Copy.mono_l : ∀ k, (∀ y0 y1 y2 y3 y4, LeO (spec_l06Copy.l0 k y0 y1 y2 y3 y4) (spec_l06Copy.l0 (k + 1) y0 y1 y2 y3 y4))
 | 0 => fun _ _ _ _ _ r h => by simp [spec_l06Copy.l0] at h
 | k + 1 => by
  have ih0 := spec_l06Copy.mono_l k
  ·intro y0 y1 y2 y3 y4
   unfold spec_l06Copy.l0
   repeat' first
   | (with_reducible exact ih0 _ _ _ _ _)
   | (with_reducible exact LeO.refl _)
   | (with_reducible exact LeO.none _)
   | (with_reducible refine LeO.ite ?_ ?_)
   | (with_reducible refine LeO.bind ?_ (fun _ => ?_))
   | exact ih0 _ _ _ _ _
   | exact LeO.none _
   | refine LeO.ite ?_ ?_
   | refine LeO.bind ?_ (fun _ => ?_)
theorem spec_l06Copy.mono : ∀ a0 a1 k, LeO (spec_l06Copy.f k a0 a1) (spec_l06Copy.f (k + 1) a0 a1) := by
 intro a0 a1 k
 have ih0 := spec_l06Copy.mono_l k
 unfold spec_l06Copy.f
 repeat' first
   | (with_reducible exact ih0 _ _ _ _ _)
   | (with_reducible exact LeO.refl _)
   | (with_reducible exact LeO.none _)
   | (with_reducible refine LeO.ite ?_ ?_)
   | (with_reducible refine LeO.bind ?_ (fun _ => ?_))
   | exact ih0 _ _ _ _ _
   | exact LeO.none _
   | refine LeO.ite ?_ ?_
   | refine LeO.bind ?_ (fun _ => ?_)
def spec_l06Copy.T5 : Bool × List (List Nat × List Nat) := (true, [([], []), ([0], [0]), ([], []), ([2], [2]), ([], []), ([3, 4], [3, 4]), ([5], [5]), ([6], [6]), ([7], [7]), ([1, 8, 7], [1, 8]), ([0, 1, 2, 3, 4, 5, 6, 7, 8, 9], []), ([10, 9, 9, 0, 1, 2, 3, 4, 5, 6, 7, 8, 9], [9, 10])])
def spec_l06Copy.B5 : List Nat := [0, 1, 0, 4, 0, 28, 60, 124, 252, 511, 1023, 2047]
theorem spec_l06Copy.tab5 : rtab .any (opsOf Try.f47 5) = spec_l06Copy.T5 := by kernel_rfl
theorem spec_l06Copy.bits5 : waitsOk spec_l06Copy.T5.2 spec_l06Copy.B5 = true := by kernel_rfl
set_option maxHeartbeats 8000000 in
set_option maxRecDepth 100000 in
theorem spec_l06Copy.calls (k : Nat) (A0_0 : Option Addr) (c0_0 : Nat) (l0_0 : List Int) (A0_1 : Option Addr) (c0_1 : Nat) (l0_1 : List (List Int)) (r1 : List Int) (r2 : List (List Int)) (w : World) (hr0_0 : Kd.C (Kd.int .i64) w A0_0 l0_0.length l0_0) (hc0_0 : l0_0.length ≤ c0_0) (hr0_1 : Kd.C (Kd.slice 2 (Kd.int .i64)) w A0_1 l0_1.length l0_1) (hc0_1 : l0_1.length ≤ c0_1) (h : spec_l06Copy.f k l0_0 l0_1 = some (r1, r2)) :
  Calls Try.prog 47 #[.agg #[.slice A0_0 l0_0.length c0_0, .slice A0_1 l0_1.length c0_1]] w fun e w' => ∃ v0_ v1_ : Value, e = .returned (.agg #[v0_, v1_]) ∧ Kd.R (Kd.int .i64) 2 w' w.heap.size (fun _ => True) v0_ r1 ∧ Kd.S (Kd.slice 2 (Kd.int .i64)) 22 w' w.heap.size (fun k_ => some k_ ≠ (v0_ : Value).ownBlock) v1_ r2 ∧ Below w.heap.size w w' := by
 have hu30 := Try.underlying30
 have HR0_0 := Aside0.mk hr0_0
 have HC0_0 := Aside0.mk hc0_0
 clear hr0_0 hc0_0
 have HR0_1 := Aside0.mk hr0_1
 have HC0_1 := Aside0.mk hc0_1
 clear hr0_1 hc0_1
 have HB := Aside0.mk (Below.refl w.heap.size w)
 have H : ((spec_l01Own.f l0_0).bind fun t471003 => (spec_l06Copy.l0 k 0 l0_0 l0_1 t471003 (([] : List (List Int))))) = some (r1, r2) := h
 clear h
 replace H := Option.bind_eq_some_iff.mp H
 obtain ⟨t471003, A20, H⟩ := H
 replace H : (spec_l06Copy.l0 k 0 l0_0 l0_1 t471003 (([] : List (List Int)))) = some (r1, r2) := H
 have A2 := Aside0.mk A20
 clear A20
 obtain ⟨y471006, hy471006⟩ : ∃ y_ : List (List Int), y_ = (([] : List (List Int))) := ⟨_, rfl⟩
 replace H : (spec_l06Copy.l0 k 0 l0_0 l0_1 t471003 y471006) = some (r1, r2) := by first | (rw [hy471006]; with_reducible exact H) | (have H2_ := (Option.bind_some _ _).symm.trans H; rw [hy471006]; with_reducible exact H2_) | (have H2_ := (Option.bind_some _ _).symm.trans H; with_reducible exact H2_) | with_reducible exact H | (rw [hy471006]; exact H) | exact H
 have Ny471006 := Aside0.mk hy471006
 clear hy471006
 have H' := Aside0.mk H
 clear H
 go_enter Try.func47, Try.ntmps47
 go_wp2_with (first | ((with_reducible refine gate_dst (N := 1) rfl ?_); refine box_event ?hg (N := 1) ?hd (cs := #[.slice A0_0 l0_0.length c0_0, .slice A0_1 l0_1.length c0_1]) (t := 30) ?hr ?_; (case hd => rfl); (case hg => rfl); (case hr => first | (go_simp; done) | (go_simp; rfl)); intro gb471001 hg w3 hbox hb; have n0_ := Aside0.mk (below_step (by repeat (first | (with_reducible first | exact HB.out | apply below_alloc | apply pw_below_drewN | apply below_drew1) | exact HB.out)) hb); have n1_ := Aside0.mk (hbox); have n2_ := Aside0.mk ((by rw [hg]; exact (below_size (by repeat (first | (with_reducible first | exact HB.out | apply below_alloc | apply pw_below_drewN | apply below_drew1) | exact HB.out))) : w.heap.size ≤ gb471001)); have n3_ := Aside0.mk ((by rw [hg]; exact (below_size (by repeat (first | (with_reducible first | exact HB.out | apply below_alloc | apply pw_below_drewN | apply below_drew1) | exact HB.out))) : w.heap.size ≤ gb471001)); clear HB; have HB := n0_; have BK471001 := n1_; have GW471001 := n2_; have GE471001 := n3_; clear n0_ n1_ n2_ n3_; clear hb hbox hg) | ((with_reducible refine gate_dst (N := 2) rfl ?_); refine box_event ?hg (N := 2) ?hd (cs := #[.slice none 0 0, .slice none 0 0]) (t := 30) ?hr ?_; (case hd => rfl); (case hg => rfl); (case hr => first | (go_simp; done) | (go_simp; rfl)); intro gb471002 hg w4 hbox hb; have n0_ := Aside0.mk (blk_below (g := gb471001) (o := .cells #[.slice A0_0 l0_0.length c0_0, .slice A0_1 l0_1.length c0_1] 30 (0, 0)) (by (with_reducible repeat (first | refine blk_drewN ?_ _ | refine blk_drew ?_ | refine blk_alloc ?_ _)); exact BK471001.out) hb); have n1_ := Aside0.mk (below_step (by repeat (first | (with_reducible first | exact HB.out | apply below_alloc | apply pw_below_drewN | apply below_drew1 | refine below_set ?_ GE471001.out) | exact HB.out)) hb); have n2_ := Aside0.mk (hbox); have n3_ := Aside0.mk ((by rw [hg]; exact (below_size (by repeat (first | (with_reducible first | exact HB.out | apply below_alloc | apply pw_below_drewN | apply below_drew1 | refine below_set ?_ GE471001.out) | exact HB.out))) : w.heap.size ≤ gb471002)); have n4_ := Aside0.mk ((by rw [hg]; exact (below_size (by repeat (first | (with_reducible first | exact HB.out | apply below_alloc | apply pw_below_drewN | apply below_drew1 | refine below_set ?_ GE471001.out) | exact HB.out))) : w.heap.size ≤ gb471002)); have n5_ := Aside0.mk ((by rw [hg]; exact Nat.ne_of_lt (blk_lt (g := gb471001) (o := .cells #[.slice A0_0 l0_0.length c0_0, .slice A0_1 l0_1.length c0_1] 30 (0, 0)) (by (with_reducible repeat (first | refine blk_drewN ?_ _ | refine blk_drew ?_ | refine blk_alloc ?_ _)); exact BK471001.out)) : gb471001 ≠ gb471002)); have n6_ := Aside0.mk ((by rw [hg]; exact Nat.ne_of_gt (blk_lt (g := gb471001) (o := .cells #[.slice A0_0 l0_0.length c0_0, .slice A0_1 l0_1.length c0_1] 30 (0, 0)) (by (with_reducible repeat (first | refine blk_drewN ?_ _ | refine blk_drew ?_ | refine blk_alloc ?_ _)); exact BK471001.out)) : gb471002 ≠ gb471001)); clear BK471001; clear HB; have BK471001 := n0_; have HB := n1_; have BK471002 := n2_; have GW471002 := n3_; have GE471002 := n4_; have NB471001_471002 := n5_; have NB471002_471001 := n6_; clear n0_ n1_ n2_ n3_ n4_ n5_ n6_; clear hb hbox hg; have hnb5 := NB471001_471002.out; have hnc5 := NB471002_471001.out; have hcz6_0 : w4.cell? ⟨gb471001, 0, none⟩ = some (.slice A0_0 l0_0.length c0_0) := (blk_cell BK471001.out 0).trans rfl; have hcz6_1 : w4.cell? ⟨gb471001, 1, none⟩ = some (.slice A0_1 l0_1.length c0_1) := (blk_cell BK471001.out 1).trans rfl; have hfz6_0 := blk_frozen BK471001.out 0; have hfz6_1 := blk_frozen BK471001.out 1) | ((with_reducible refine gate_callee (f := 100) rfl ?_); refine goesL_ (some 7) rfl rfl Try.func100 (by kernel_rfl) rfl #[.slice A0_0 l0_0.length c0_0] rfl (by (try simp only [List.map_toArray, List.map_cons, List.map_nil]); first | done | rfl | (simp only [List.length_drop, List.length_take]; rfl)) ?_; (with_reducible refine (spec_l01Own.calls _ _ l0_0 t471003 _ ?side1 ?side2 A2.out).mono ?_); (case side1 => repeat (first | exact (Kd.C_below HR0_0.out HB.out) | (with_reducible refine Kd.C_alloc ?_ _) | (with_reducible refine Kd.C_drewN ?_ _) | (with_reducible refine Kd.C_drew ?_))); (case side2 => exact HC0_0.out); rintro e w7 ⟨v471004, rfl, ho0, hb⟩; refine ⟨_, rfl, ?_⟩; have n0_ := Aside0.mk (Kd.R_lower ho0 (below_size (by repeat (first | (with_reducible first | exact HB.out | apply below_alloc | apply pw_below_drewN | apply below_drew1 | refine below_set ?_ GE471001.out | refine below_set ?_ GE471002.out) | exact HB.out)))); have n1_ := Aside0.mk (blk_below (g := gb471001) (o := .cells #[.slice A0_0 l0_0.length c0_0, .slice A0_1 l0_1.length c0_1] 30 (0, 0)) (by (with_reducible repeat (first | refine blk_drewN ?_ _ | refine blk_drew ?_ | refine blk_alloc ?_ _)); exact BK471001.out) hb); have n2_ := Aside0.mk (blk_below (g := gb471002) (o := .cells #[.slice none 0 0, .slice none 0 0] 30 (0, 0)) (by (with_reducible repeat (first | refine blk_drewN ?_ _ | refine blk_drew ?_ | refine blk_alloc ?_ _)); exact BK471002.out) hb); have n3_ := Aside0.mk (below_step (by repeat (first | (with_reducible first | exact HB.out | apply below_alloc | apply pw_below_drewN | apply below_drew1 | refine below_set ?_ GE471001.out | refine below_set ?_ GE471002.out) | exact HB.out)) hb); clear BK471001; clear BK471002; clear HB; have HO471005 := n0_; have BK471001 := n1_; have BK471002 := n2_; have HB := n3_; clear n0_ n1_ n2_ n3_; (try clear hb); (try clear hb2); (try clear hk); (try clear hi); (try clear ho0)) | ((with_reducible refine gate_dst (N := 8) rfl ?_); refine Kd.S_lit (Kd.slice 2 (Kd.int .i64)) _ 22 ?hg (N := 8) ?hd (xs := ([] : List (List Int))) (inner := []) (ok := fun _ => True) (okp := fun _ => True) ?hr ?hp (fun _ hk => hk) trivial (Below.refl _ _) (Nat.le_refl _) (by simp) ?_; (case hd => rfl); (case hg => rfl); (case hr => first | (go_simp; done) | (go_simp; rfl)); (case hp => exact (Reps.none _ _)); intro v471007 w8 ho9 hb hg_ hnew_; clear hg_ hnew_; (first | rw [← Ny471006.out] at ho9 | (simp only [Int.reduceToNat] at ho9; rw [← Ny471006.out] at ho9)); have n0_ := Aside0.mk (Kd.R_below (by (with_reducible repeat (first | apply Kd.R_alloc | apply Kd.R_drewN | apply Kd.R_drew)); exact HO471005.out) hb); have n1_ := Aside0.mk (Kd.S_lower (Kd.S_new' ho9 (Kd.R_lt (by (with_reducible repeat (first | apply Kd.R_alloc | apply Kd.R_drewN | apply Kd.R_drew)); exact HO471005.out))) (below_size (by repeat (first | (with_reducible first | exact HB.out | apply below_alloc | apply pw_below_drewN | apply below_drew1 | refine below_set ?_ GE471001.out | refine below_set ?_ GE471002.out) | exact HB.out)))); have n2_ := Aside0.mk (blk_below (g := gb471001) (o := .cells #[.slice A0_0 l0_0.length c0_0, .slice A0_1 l0_1.length c0_1] 30 (0, 0)) (by (with_reducible repeat (first | refine blk_drewN ?_ _ | refine blk_drew ?_ | refine blk_alloc ?_ _)); exact BK471001.out) hb); have n3_ := Aside0.mk (blk_below (g := gb471002) (o := .cells #[.slice none 0 0, .slice none 0 0] 30 (0, 0)) (by (with_reducible repeat (first | refine blk_drewN ?_ _ | refine blk_drew ?_ | refine blk_alloc ?_ _)); exact BK471002.out) hb); have n4_ := Aside0.mk (below_step (by repeat (first | (with_reducible first | exact HB.out | apply below_alloc | apply pw_below_drewN | apply below_drew1 | refine below_set ?_ GE471001.out | refine below_set ?_ GE471002.out) | exact HB.out)) hb); clear HO471005; clear BK471001; clear BK471002; clear HB; have HO471005 := n0_; have HO471008 := n1_; have BK471001 := n2_; have BK471002 := n3_; have HB := n4_; clear n0_ n1_ n2_ n3_ n4_; clear hb ho9; obtain ⟨Ao10, co10, eo10⟩ := Kd.S_slice HO471008.out; subst eo10; obtain ⟨Ao11, co11, eo11⟩ := Kd.R_slice HO471005.out; subst eo11) | ((with_reducible refine gate_dst (N := 3) rfl ?_); refine box_event ?hg (N := 3) ?hd (cs := #[.slice none 0 0, .slice none 0 0]) (t := 30) ?hr ?_; (case hd => rfl); (case hg => rfl); (case hr => first | (go_simp; done) | (go_simp; rfl)); intro gb471009 hg w12 hbox hb; have n0_ := Aside0.mk (Kd.R_below (by (with_reducible repeat (first | apply Kd.R_alloc | apply Kd.R_drewN | apply Kd.R_drew)); exact HO471005.out) hb); have n1_ := Aside0.mk (Kd.S_below (by (with_reducible repeat (first | apply Kd.S_alloc | apply Kd.S_drewN | apply Kd.S_drew)); exact HO471008.out) hb); have n2_ := Aside0.mk (blk_below (g := gb471001) (o := .cells #[.slice A0_0 l0_0.length c0_0, .slice A0_1 l0_1.length c0_1] 30 (0, 0)) (by (with_reducible repeat (first | refine blk_drewN ?_ _ | refine blk_drew ?_ | refine blk_alloc ?_ _)); exact BK471001.out) hb); have n3_ := Aside0.mk (blk_below (g := gb471002) (o := .cells #[.slice none 0 0, .slice none 0 0] 30 (0, 0)) (by (with_reducible repeat (first | refine blk_drewN ?_ _ | refine blk_drew ?_ | refine blk_alloc ?_ _)); exact BK471002.out) hb); have n4_ := Aside0.mk (below_step (by repeat (first | (with_reducible first | exact HB.out | apply below_alloc | apply pw_below_drewN | apply below_drew1 | refine below_set ?_ GE471001.out | refine below_set ?_ GE471002.out) | exact HB.out)) hb); have n5_ := Aside0.mk (hbox); have n6_ := Aside0.mk ((by rw [hg]; exact (below_size (by repeat (first | (with_reducible first | exact HB.out | apply below_alloc | apply pw_below_drewN | apply below_drew1 | refine below_set ?_ GE471001.out | refine below_set ?_ GE471002.out) | exact HB.out))) : w.heap.size ≤ gb471009)); have n7_ := Aside0.mk ((by rw [hg]; exact (below_size (by repeat (first | (with_reducible first | exact HB.out | apply below_alloc | apply pw_below_drewN | apply below_drew1 | refine below_set ?_ GE471001.out | refine below_set ?_ GE471002.out) | exact HB.out))) : w.heap.size ≤ gb471009)); have n8_ := Aside0.mk ((by rw [hg]; exact Nat.ne_of_lt (blk_lt (g := gb471001) (o := .cells #[.slice A0_0 l0_0.length c0_0, .slice A0_1 l0_1.length c0_1] 30 (0, 0)) (by (with_reducible repeat (first | refine blk_drewN ?_ _ | refine blk_drew ?_ | refine blk_alloc ?_ _)); exact BK471001.out)) : gb471001 ≠ gb471009)); have n9_ := Aside0.mk ((by rw [hg]; exact Nat.ne_of_gt (blk_lt (g := gb471001) (o := .cells #[.slice A0_0 l0_0.length c0_0, .slice A0_1 l0_1.length c0_1] 30 (0, 0)) (by (with_reducible repeat (first | refine blk_drewN ?_ _ | refine blk_drew ?_ | refine blk_alloc ?_ _)); exact BK471001.out)) : gb471009 ≠ gb471001)); have n10_ := Aside0.mk ((by rw [hg]; exact Nat.ne_of_lt (blk_lt (g := gb471002) (o := .cells #[.slice none 0 0, .slice none 0 0] 30 (0, 0)) (by (with_reducible repeat (first | refine blk_drewN ?_ _ | refine blk_drew ?_ | refine blk_alloc ?_ _)); exact BK471002.out)) : gb471002 ≠ gb471009)); have n11_ := Aside0.mk ((by rw [hg]; exact Nat.ne_of_gt (blk_lt (g := gb471002) (o := .cells #[.slice none 0 0, .slice none 0 0] 30 (0, 0)) (by (with_reducible repeat (first | refine blk_drewN ?_ _ | refine blk_drew ?_ | refine blk_alloc ?_ _)); exact BK471002.out)) : gb471009 ≠ gb471002)); clear HO471005; clear HO471008; clear BK471001; clear BK471002; clear HB; have HO471005 := n0_; have HO471008 := n1_; have BK471001 := n2_; have BK471002 := n3_; have HB := n4_; have BK471009 := n5_; have GW471009 := n6_; have GE471009 := n7_; have NB471001_471009 := n8_; have NB471009_471001 := n9_; have NB471002_471009 := n10_; have NB471009_471002 := n11_; clear n0_ n1_ n2_ n3_ n4_ n5_ n6_ n7_ n8_ n9_ n10_ n11_; clear hb hbox hg; have hnb13 := NB471009_471001.out; have hnc13 := NB471001_471009.out; have hnb14 := NB471009_471002.out; have hnc14 := NB471002_471009.out; have hcz15_0 : w12.cell? ⟨gb471009, 0, none⟩ = some (.slice none 0 0) := (blk_cell BK471009.out 0).trans rfl; have hcz15_1 : w12.cell? ⟨gb471009, 1, none⟩ = some (.slice none 0 0) := (blk_cell BK471009.out 1).trans rfl; have hfz15_0 := blk_frozen BK471009.out 0; have hfz15_1 := blk_frozen BK471009.out 1))
 go_loopg [4] k (fun kq v4 w' => ∃ (x4_1 : Int) (x471010001_1 : List (List Int)) (u471010001 : Value), v4 = .int .i64 x4_1 ∧ Aside0 (spec_l06Copy.l0 kq x4_1 l0_0 l0_1 t471003 x471010001_1 = some (r1, r2)) ∧ Aside0 (kq ≤ k) ∧ Aside0 (Kd.R (Kd.int .i64) 2 w' w.heap.size (fun _ => True) (.slice Ao11 t471003.length co11) t471003) ∧ Aside0 (Kd.S (Kd.slice 2 (Kd.int .i64)) 22 w' w.heap.size (fun k_ => some k_ ≠ ((.slice Ao11 t471003.length co11) : Value).ownBlock) u471010001 x471010001_1) ∧ Aside0 (w'.heap[gb471001]? = some (.cells #[(.slice A0_0 l0_0.length c0_0), (.slice A0_1 l0_1.length c0_1)] 30 (0, 0))) ∧ Aside0 (w'.heap[gb471002]? = some (.cells #[(.slice none 0 0), (.slice none 0 0)] 30 (0, 0))) ∧ Aside0 (w'.heap[gb471009]? = some (.cells #[(.slice Ao11 t471003.length co11), u471010001] 30 (0, 0))) ∧ Aside0 (Below w.heap.size w w'))
 case atStart => exact ⟨(0), (y471006), (.slice Ao10 y471006.length co10), (by first | rfl | (simp; done) | (simp [*]; done)), H', ⟨Nat.le_refl _⟩, ⟨by (with_reducible repeat (first | apply Kd.R_alloc | apply Kd.R_drewN | apply Kd.R_drew)); exact Kd.R_mono (Kd.R_far (p := ⟨gb471009, 1, none⟩) (Kd.R_far (p := ⟨gb471009, 0, none⟩) (Kd.R_types HO471005.out BK471009.out (by decide)) (fun _ hk => hk.2) (.slice Ao11 t471003.length co11)) (fun _ hk => hk.2) (.slice Ao10 y471006.length co10)) (fun _ hk => trivial)⟩, ⟨by (with_reducible repeat (first | apply Kd.S_alloc | apply Kd.S_drewN | apply Kd.S_drew)); exact Kd.S_mono (Kd.S_far (p := ⟨gb471009, 1, none⟩) (Kd.S_far (p := ⟨gb471009, 0, none⟩) (Kd.S_types HO471008.out BK471009.out (by decide)) (fun _ hk => hk.2) (.slice Ao11 t471003.length co11)) (fun _ hk => hk.2) (.slice Ao10 y471006.length co10)) (fun _ hk => hk.1.2)⟩, ⟨by (with_reducible repeat (first | refine blk_drewN ?_ _ | refine blk_drew ?_ | refine blk_alloc ?_ _)); refine blk_far ?_ NB471001_471009.out _; (with_reducible repeat (first | refine blk_drewN ?_ _ | refine blk_drew ?_ | refine blk_alloc ?_ _)); refine blk_far ?_ NB471001_471009.out _; (with_reducible repeat (first | refine blk_drewN ?_ _ | refine blk_drew ?_ | refine blk_alloc ?_ _)); exact BK471001.out⟩, ⟨by (with_reducible repeat (first | refine blk_drewN ?_ _ | refine blk_drew ?_ | refine blk_alloc ?_ _)); refine blk_far ?_ NB471002_471009.out _; (with_reducible repeat (first | refine blk_drewN ?_ _ | refine blk_drew ?_ | refine blk_alloc ?_ _)); refine blk_far ?_ NB471002_471009.out _; (with_reducible repeat (first | refine blk_drewN ?_ _ | refine blk_drew ?_ | refine blk_alloc ?_ _)); exact BK471002.out⟩, ⟨by (with_reducible repeat (first | refine blk_drewN ?_ _ | refine blk_drew ?_ | refine blk_alloc ?_ _)); refine blk_put (cs := #[.slice Ao11 t471003.length co11, .slice none 0 0]) ?_ 1 _ rfl; (with_reducible repeat (first | refine blk_drewN ?_ _ | refine blk_drew ?_ | refine blk_alloc ?_ _)); refine blk_put (cs := #[.slice none 0 0, .slice none 0 0]) ?_ 0 _ rfl; (with_reducible repeat (first | refine blk_drewN ?_ _ | refine blk_drew ?_ | refine blk_alloc ?_ _)); exact BK471009.out⟩, ⟨by repeat (first | (with_reducible first | exact HB.out | apply below_alloc | apply pw_below_drewN | apply below_drew1 | refine below_set ?_ GE471001.out | refine below_set ?_ GE471002.out | refine below_set ?_ GE471009.out) | exact HB.out)⟩⟩
 case round =>
  clear H'
  try clear c1
  try clear p2
  try clear c4
  try clear c5
  try clear c10
  try clear c13
  try clear c14
  try clear hcz15_0
  try clear hcz15_1
  try clear hcz6_0
  try clear hcz6_1
  try clear hfz15_0
  try clear hfz15_1
  try clear hfz6_0
  try clear hfz6_1
  obtain ⟨x4_1, x471010001_1, u471010001, rfl, HA, HK1, HO_471010000, HO_471010001, BK471001, BK471002, BK471009, HB⟩ := hrel
  cases gk with
  | zero => exact absurd HA.out (by simp [spec_l06Copy.l0])
  | succ k1 =>
   have H := HA.out
   clear HA
   simp only [spec_l06Copy.l0] at H
   by_cases c16 : x4_1 < (l0_1.length : Int)
   rotate_left
   ·rw [if_neg c16] at H
    have c16b0 : decide (x4_1 < (l0_1.length : Int)) = false := decide_eq_false c16
    clear c16
    simp only [Option.some.injEq, Prod.mk.injEq] at H
    obtain ⟨rfl, rfl⟩ := H
    have hnb29 := NB471001_471002.out
    have hnc29 := NB471002_471001.out
    have hnb30 := NB471001_471009.out
    have hnc30 := NB471009_471001.out
    have hcz31_0 : wr.cell? ⟨gb471001, 0, none⟩ = some (.slice A0_0 l0_0.length c0_0) := (blk_cell BK471001.out 0).trans rfl
    have hcz31_1 : wr.cell? ⟨gb471001, 1, none⟩ = some (.slice A0_1 l0_1.length c0_1) := (blk_cell BK471001.out 1).trans rfl
    have hfz31_0 := blk_frozen BK471001.out 0
    have hfz31_1 := blk_frozen BK471001.out 1
    have hnb32 := NB471009_471002.out
    have hnc32 := NB471002_471009.out
    have hcz33_0 : wr.cell? ⟨gb471009, 0, none⟩ = some (.slice Ao11 t471003.length co11) := (blk_cell BK471009.out 0).trans rfl
    have hcz33_1 : wr.cell? ⟨gb471009, 1, none⟩ = some (u471010001) := (blk_cell BK471009.out 1).trans rfl
    have hfz33_0 := blk_frozen BK471009.out 0
    have hfz33_1 := blk_frozen BK471009.out 1
    have hcz34_0 : wr.cell? ⟨gb471002, 0, none⟩ = some (.slice none 0 0) := (blk_cell BK471002.out 0).trans rfl
    have hcz34_1 : wr.cell? ⟨gb471002, 1, none⟩ = some (.slice none 0 0) := (blk_cell BK471002.out 1).trans rfl
    have hfz34_0 := blk_frozen BK471002.out 0
    have hfz34_1 := blk_frozen BK471002.out 1
    obtain ⟨Ao35, co35, eo35⟩ := Kd.S_slice HO_471010001.out
    subst eo35
    go_wp2
    refine bodyPost_ret (results_cell_row rfl _ _ gb471002 30 #[.slice Ao11 t471003.length co11, .slice Ao35 x471010001_1.length co35] (0, 0) _ rfl (by (with_reducible repeat (first | refine blk_drewN ?_ _ | refine blk_drew ?_ | refine blk_alloc ?_ _)); refine blk_put (cs := #[.slice Ao11 t471003.length co11, .slice none 0 0]) ?_ 1 _ rfl; (with_reducible repeat (first | refine blk_drewN ?_ _ | refine blk_drew ?_ | refine blk_alloc ?_ _)); refine blk_put (cs := #[.slice none 0 0, .slice none 0 0]) ?_ 0 _ rfl; (with_reducible repeat (first | refine blk_drewN ?_ _ | refine blk_drew ?_ | refine blk_alloc ?_ _)); exact BK471002.out) Try.underlying30 rfl (by kernel_rfl)) rfl ?_
    exact ⟨_, _, by first | rfl | (simp [errW_none, errW_some] <;> rfl) | (simp [*, errW_none, errW_some] <;> rfl), by (with_reducible repeat (first | apply Kd.R_alloc | apply Kd.R_drewN | apply Kd.R_drew)); exact Kd.R_mono (Kd.R_far (p := ⟨gb471002, 1, none⟩) (Kd.R_far (p := ⟨gb471002, 0, none⟩) (Kd.R_types HO_471010000.out BK471002.out (by decide)) (fun _ hk => hk.2) (.slice Ao11 t471003.length co11)) (fun _ hk => hk.2) (.slice Ao35 x471010001_1.length co35)) (fun _ hk => trivial), by (with_reducible repeat (first | apply Kd.S_alloc | apply Kd.S_drewN | apply Kd.S_drew)); exact Kd.S_mono (Kd.S_far (p := ⟨gb471002, 1, none⟩) (Kd.S_far (p := ⟨gb471002, 0, none⟩) (Kd.S_types HO_471010001.out BK471002.out (by decide)) (fun _ hk => hk.2) (.slice Ao11 t471003.length co11)) (fun _ hk => hk.2) (.slice Ao35 x471010001_1.length co35)) (fun _ hk => hk.1), by repeat (first | (with_reducible first | exact HB.out | apply below_alloc | apply pw_below_drewN | apply below_drew1 | refine below_set ?_ GE471001.out | refine below_set ?_ GE471002.out | refine below_set ?_ GE471009.out) | exact HB.out)⟩
   rw [if_pos c16] at H
   have c16b0 : decide (x4_1 < (l0_1.length : Int)) = true := decide_eq_true c16
   clear c16
   by_cases c17 : 0 ≤ x4_1
   rotate_left
   ·rw [if_neg c17] at H
    exact absurd H (by simp)
   rw [if_pos c17] at H
   have c17b0 : decide (0 ≤ x4_1) = true := decide_eq_true c17
   clear c17
   replace H := Option.bind_eq_some_iff.mp H
   obtain ⟨t471011, A180, H⟩ := H
   replace H : (if x471010001_1.length < 5864062014805 then (spec_l06Copy.l0 k1 (wrap64 (x4_1 + 1)) l0_0 l0_1 t471003 (x471010001_1 ++ [t471011])) else (none)) = some (r1, r2) := H
   have A18 := Aside0.mk A180
   clear A180
   by_cases c19 : x471010001_1.length < 5864062014805
   rotate_left
   ·rw [if_neg c19] at H
    exact absurd H (by simp)
   rw [if_pos c19] at H
   have LMc19 := Aside0.mk c19
   clear c19
   obtain ⟨y471014, hy471014⟩ : ∃ y_ : List (List Int), y_ = (x471010001_1 ++ [t471011]) := ⟨_, rfl⟩
   replace H : (spec_l06Copy.l0 k1 (wrap64 (x4_1 + 1)) l0_0 l0_1 t471003 y471014) = some (r1, r2) := by first | (rw [hy471014]; with_reducible exact H) | (have H2_ := (Option.bind_some _ _).symm.trans H; rw [hy471014]; with_reducible exact H2_) | (have H2_ := (Option.bind_some _ _).symm.trans H; with_reducible exact H2_) | with_reducible exact H | (rw [hy471014]; exact H) | exact H
   have Ny471014 := Aside0.mk hy471014
   clear hy471014
   have H' := Aside0.mk H
   clear H
   have hnb20 := NB471001_471002.out
   have hnc20 := NB471002_471001.out
   have hnb21 := NB471001_471009.out
   have hnc21 := NB471009_471001.out
   have hcz22_0 : wr.cell? ⟨gb471001, 0, none⟩ = some (.slice A0_0 l0_0.length c0_0) := (blk_cell BK471001.out 0).trans rfl
   have hcz22_1 : wr.cell? ⟨gb471001, 1, none⟩ = some (.slice A0_1 l0_1.length c0_1) := (blk_cell BK471001.out 1).trans rfl
   have hfz22_0 := blk_frozen BK471001.out 0
   have hfz22_1 := blk_frozen BK471001.out 1
   try go_wp2
   have n0_ := Aside0.mk (Kd.R_drew HO_471010000.out)
   have n1_ := Aside0.mk (Kd.S_drew HO_471010001.out)
   have n2_ := Aside0.mk (blk_drew BK471001.out)
   have n3_ := Aside0.mk (blk_drew BK471002.out)
   have n4_ := Aside0.mk (blk_drew BK471009.out)
   have n5_ := Aside0.mk (below_drew1 HB.out)
   clear HO_471010000
   clear HO_471010001
   clear BK471001
   clear BK471002
   clear BK471009
   clear HB
   have HO_471010000 := n0_
   have HO_471010001 := n1_
   have BK471001 := n2_
   have BK471002 := n3_
   have BK471009 := n4_
   have HB := n5_
   clear n0_ n1_ n2_ n3_ n4_ n5_
   have p471010 : 0 ≤ (x4_1 : Int) := of_decide_eq_true (by first | (with_reducible assumption) | assumption)
   have q471010 : x4_1 < (l0_1.length : Int) := of_decide_eq_true (by first | (with_reducible assumption) | assumption)
   obtain ⟨ad471010, A471010_0, c471010_0, e471010, hx471010_0, hl471010_0, hi471010_0⟩ := at_L1 HR0_1.out x4_1 p471010 q471010
   have hw471010_0 := hx471010_0
   cases e471010
   replace hx471010_0 := (HB.out.cell (World.block_lt_of_cell? w _ hx471010_0)).trans hx471010_0
   have HR471010_0 := Aside0.mk hi471010_0
   have HC471010_0 := Aside0.mk hl471010_0
   clear hi471010_0 hl471010_0
   replace p471010 := eq_true p471010
   replace q471010 := eq_true q471010
   refine start_ (n := 12) (S := fun w' => w'.cell? ⟨gb471009, 0, none⟩ = some (.slice Ao11 t471003.length co11) ∧ w'.cell? ⟨gb471009, 1, none⟩ = some (u471010001) ∧ w'.cell? ⟨gb471001, 0, none⟩ = some (.slice A0_0 l0_0.length c0_0) ∧ w'.cell? ⟨gb471001, 1, none⟩ = some (.slice (some ad471010) l0_1.length c0_1) ∧ w'.cell? (ad471010.add (x4_1).toNat) = some (.slice A471010_0 (rd_L1 l0_1 x4_1).length c471010_0)) (ds := [11]) bqFx47_0 (by kernel_rfl) rfl rfl ⟨(blk_cell BK471009.out 0).trans rfl, (blk_cell BK471009.out 1).trans rfl, (blk_cell BK471001.out 0).trans rfl, (blk_cell BK471001.out 1).trans rfl, ((HB.out.cell (World.block_lt_of_cell? w _ hw471010_0)).trans hw471010_0)⟩ (fun hHeld => ?_); refine with_tabW spec_l06Copy.tab5 spec_l06Copy.bits5 (fun HT_ HW_ => ?_)
   generalize wr.drew = w23 at HO_471010000 HO_471010001 BK471001 BK471002 BK471009 HB HR471010_0 hx471010_0 hHeld ⊢
   refine pure_ (i := 0) (N := some 17) (v := ?_) (a' := ?_) bqFx47_1 rfl rfl (any_of HT_.out (by kernel_rfl)) (fun _ _ _ h => h) (Or.inl ⟨by rfl, ?_⟩) ?_ ?_
   rotate_left
   ·intro w'
    go_simp
    with_reducible rfl
   rotate_left
   ·simp only [Act.put, List.setIfInBounds_toArray, List.set_cons_zero, List.set_cons_succ, i64_w, i32_w]
    rfl
   refine pure_ (i := 2) (N := some 19) (v := ?_) (a' := ?_) bqFx47_2 rfl rfl (any_of HT_.out (by kernel_rfl)) (fun _ _ _ h => h) (Or.inl ⟨by rfl, ?_⟩) ?_ ?_
   rotate_left
   ·intro w'
    go_simp
    with_reducible rfl
   rotate_left
   ·simp only [Act.put, List.setIfInBounds_toArray, List.set_cons_zero, List.set_cons_succ, i64_w, i32_w]
    rfl
   refine pure_ (i := 4) (N := some 21) (v := ?_) (a' := ?_) bqFx47_3 rfl rfl (any_of HT_.out (by kernel_rfl)) (fun _ _ _ h => h) (Or.inl ⟨by rfl, ?_⟩) ?_ ?_
   rotate_left
   ·intro w'
    go_simp
    with_reducible rfl
   rotate_left
   ·simp only [Act.put, List.setIfInBounds_toArray, List.set_cons_zero, List.set_cons_succ, i64_w, i32_w]
    rfl
   refine take_ (i := 1) (N := some 18) (v := ?_) (a' := ?_) bqFx47_4 rfl rfl (take_ofW HT_.out HW_.out (by kernel_rfl)) (fun _ _ _ h => h) (Or.inl ⟨by rfl, ?_⟩) hHeld ?_ ?_
   rotate_left
   ·rintro w' ⟨s0, s1, s2, s3, s4⟩
    go_simp
    with_reducible rfl
   rotate_left
   ·simp only [Act.put, List.setIfInBounds_toArray, List.set_cons_zero, List.set_cons_succ, i64_w, i32_w]
    rfl
   refine take_ (i := 3) (N := some 20) (v := ?_) (a' := ?_) bqFx47_5 rfl rfl (take_ofW HT_.out HW_.out (by kernel_rfl)) (fun _ _ _ h => h) (Or.inl ⟨by rfl, ?_⟩) hHeld ?_ ?_
   rotate_left
   ·rintro w' ⟨s0, s1, s2, s3, s4⟩
    go_simp
    with_reducible rfl
   rotate_left
   ·simp only [Act.put, List.setIfInBounds_toArray, List.set_cons_zero, List.set_cons_succ, i64_w, i32_w]
    rfl
   refine pure_ (i := 5) (N := some 22) (v := ?_) (a' := ?_) bqFx47_6 rfl rfl (any_of HT_.out (by kernel_rfl)) (fun _ _ _ h => h) (Or.inl ⟨by rfl, ?_⟩) ?_ ?_
   rotate_left
   ·intro w'
    go_simp
    with_reducible rfl
   rotate_left
   ·simp only [Act.put, List.setIfInBounds_toArray, List.set_cons_zero, List.set_cons_succ, i64_w, i32_w]
    rfl
   refine take_ (i := 6) (N := some 23) (v := ?_) (a' := ?_) bqFx47_7 rfl rfl (take_ofW HT_.out HW_.out (by kernel_rfl)) (fun _ _ _ h => h) (Or.inl ⟨by rfl, ?_⟩) hHeld ?_ ?_
   rotate_left
   ·rintro w' ⟨s0, s1, s2, s3, s4⟩
    go_simp
    with_reducible rfl
   rotate_left
   ·simp only [Act.put, List.setIfInBounds_toArray, List.set_cons_zero, List.set_cons_succ, i64_w, i32_w]
    rfl
   refine one_ (i := 7) (N := some 24) bqFx47_8 rfl rfl (one_of HT_.out (by kernel_rfl)) (by decide) (fun K hK => ?_)
   refine goes_ Try.func100 (by kernel_rfl) rfl #[.slice A471010_0 (rd_L1 l0_1 x4_1).length c471010_0] (by rfl) rfl rfl (by (try simp only [List.map_toArray, List.map_cons, List.map_nil]); first | done | rfl | (simp only [List.length_drop, List.length_take]; rfl)) ?_
   with_reducible refine (spec_l01Own.calls _ _ (rd_L1 l0_1 x4_1) t471011 _ ?side1 ?side2 A18.out).mono ?_
   (case side1 => repeat (first | exact (Kd.C_below HR471010_0.out HB.out) | (with_reducible refine Kd.C_alloc ?_ _) | (with_reducible refine Kd.C_drewN ?_ _) | (with_reducible refine Kd.C_drew ?_)))
   (case side2 => exact HC471010_0.out)
   rintro e w24 ⟨v471012, rfl, ho0, hb⟩
   refine ⟨_, rfl, ?_⟩
   have n0_ := Aside0.mk (Kd.R_elder' (by (with_reducible repeat (first | apply Kd.R_alloc | apply Kd.R_drewN | apply Kd.R_drew)); exact HO_471010000.out) (Kd.R_base ho0) hb)
   have n1_ := Aside0.mk (Kd.S_elder' (by (with_reducible repeat (first | apply Kd.S_alloc | apply Kd.S_drewN | apply Kd.S_drew)); exact HO_471010001.out) (Kd.R_base ho0) hb)
   have n2_ := Aside0.mk (Kd.R_lower (Kd.R_new' ho0 (Kd.R_lt (by (with_reducible repeat (first | apply Kd.R_alloc | apply Kd.R_drewN | apply Kd.R_drew)); exact HO_471010000.out))) (below_size (by repeat (first | (with_reducible first | exact HB.out | apply below_alloc | apply pw_below_drewN | apply below_drew1 | refine below_set ?_ GE471001.out | refine below_set ?_ GE471002.out | refine below_set ?_ GE471009.out) | exact HB.out))))
   have n3_ := Aside0.mk (blk_below (g := gb471001) (o := .cells #[.slice A0_0 l0_0.length c0_0, .slice (some ad471010) l0_1.length c0_1] 30 (0, 0)) (by (with_reducible repeat (first | refine blk_drewN ?_ _ | refine blk_drew ?_ | refine blk_alloc ?_ _)); exact BK471001.out) hb)
   have n4_ := Aside0.mk (blk_below (g := gb471002) (o := .cells #[.slice none 0 0, .slice none 0 0] 30 (0, 0)) (by (with_reducible repeat (first | refine blk_drewN ?_ _ | refine blk_drew ?_ | refine blk_alloc ?_ _)); exact BK471002.out) hb)
   have n5_ := Aside0.mk (blk_below (g := gb471009) (o := .cells #[.slice Ao11 t471003.length co11, u471010001] 30 (0, 0)) (by (with_reducible repeat (first | refine blk_drewN ?_ _ | refine blk_drew ?_ | refine blk_alloc ?_ _)); exact BK471009.out) hb)
   have n6_ := Aside0.mk (below_step (by repeat (first | (with_reducible first | exact HB.out | apply below_alloc | apply pw_below_drewN | apply below_drew1 | refine below_set ?_ GE471001.out | refine below_set ?_ GE471002.out | refine below_set ?_ GE471009.out) | exact HB.out)) hb)
   clear HO_471010000
   clear HO_471010001
   clear BK471001
   clear BK471002
   clear BK471009
   clear HB
   have HO_471010000 := n0_
   have HO_471010001 := n1_
   have HO471013 := n2_
   have BK471001 := n3_
   have BK471002 := n4_
   have BK471009 := n5_
   have HB := n6_
   clear n0_ n1_ n2_ n3_ n4_ n5_ n6_
   (try clear hb)
   (try clear hb2)
   (try clear hk)
   (try clear hi)
   (try clear ho0)
   obtain ⟨Ao26, co26, eo26⟩ := Kd.R_slice HO471013.out
   (first | subst eo26 | (injection eo26 with f1_ f2_ f3_; have f4_ := f1_.symm; have f5_ := f3_.symm; clear f1_ f2_ f3_; subst f4_; subst f5_))
   refine hK.out _ _ ⟨(blk_cell BK471009.out 0).trans rfl, (blk_cell BK471009.out 1).trans rfl, (blk_cell BK471001.out 0).trans rfl, (blk_cell BK471001.out 1).trans rfl, ((HB.out.cell (World.block_lt_of_cell? w _ hw471010_0)).trans hw471010_0)⟩ (fun hHeld => ?_)
   clear hK K
   refine norm_ (a' := ?_) ?_ ?_
   rotate_left
   ·show Act.put _ (some 24) _ = _
    simp only [Act.put, List.setIfInBounds_toArray, List.set_cons_zero, List.set_cons_succ, i64_w, i32_w]
    rfl
   refine one_ (i := 8) (N := some 25) bqFx47_9 rfl rfl (one_of HT_.out (by kernel_rfl)) (by decide) (fun K hK => ?_)
   refine value_ (w1 := ?_) (v := ?_) (by rfl) rfl ?_ ?_
   rotate_left 2
   ·go_simp
    constructor
    ·rfl
    ·rfl
   refine hK.out _ _ ⟨(blk_cell (blk_alloc BK471009.out _) 0).trans rfl, (blk_cell (blk_alloc BK471009.out _) 1).trans rfl, (blk_cell (blk_alloc BK471001.out _) 0).trans rfl, (blk_cell (blk_alloc BK471001.out _) 1).trans rfl, (World.cell?_alloc_lt _ _ _ (World.block_lt_of_cell? _ _ (((HB.out.cell (World.block_lt_of_cell? w _ hw471010_0)).trans hw471010_0)))).trans (((HB.out.cell (World.block_lt_of_cell? w _ hw471010_0)).trans hw471010_0))⟩ (fun hHeld => ?_)
   clear hK K
   refine norm_ (a' := ?_) ?_ ?_
   rotate_left
   ·show Act.put _ (some 25) _ = _
    simp only [Act.put, List.setIfInBounds_toArray, List.set_cons_zero, List.set_cons_succ, i64_w, i32_w]
    rfl
   refine one_ (i := 9) (N := some 26) bqFx47_10 rfl rfl (one_of HT_.out (by kernel_rfl)) (by decide) (fun K hK => ?_)
   refine Kd.S_append_step (Kd.slice 2 (Kd.int .i64)) (w0 := w) w.heap.size (by rfl) (.tmp 18) (.tmp 25) 23 22 (.slice none 0 0) 24 rfl Try.underlying23 info22 rfl (by decide) (by omega) u471010001 x471010001_1 t471011 [.slice Ao26 t471011.length co26] (fun k_ => some k_ ≠ (.slice Ao11 t471003.length co11 : Value).ownBlock) (fun k_ => some k_ = (.slice Ao26 t471011.length co26 : Value).ownBlock) rfl rfl ?aP (fun k_ hk_ => ((Kd.R_mono (ok' := fun k_ => ((fun k_ => some k_ ≠ (.slice Ao11 t471003.length co11 : Value).ownBlock)) k_ ∧ some k_ ≠ (u471010001 : Value).ownBlock) (Kd.R_apart' (HO471013.out) (Kd.S_typed HO_471010001.out) (by decide)) (fun k_ hk => ⟨hk.1.2, hk.2⟩))).1 k_ hk_.symm) ?aF ?aO ?aB ?aS ?aL ?_
   (case aP => exact Kd.M_row (Kd.R_mono (Kd.R_tight rfl (Kd.R_mono (ok' := fun k_ => ((fun k_ => some k_ ≠ (.slice Ao11 t471003.length co11 : Value).ownBlock)) k_ ∧ some k_ ≠ (u471010001 : Value).ownBlock) (Kd.R_apart' (HO471013.out) (Kd.S_typed HO_471010001.out) (by decide)) (fun k_ hk => ⟨hk.1.2, hk.2⟩))) (fun _ h_ => h_)))
   (case aB => exact (by repeat (first | (with_reducible first | exact HB.out | apply below_alloc | apply pw_below_drewN | apply below_drew1 | refine below_set ?_ GE471001.out | refine below_set ?_ GE471002.out | refine below_set ?_ GE471009.out) | exact HB.out)))
   (case aF => exact (fun k_ hk => Kd.fresh' (Kd.R_lt (by (with_reducible repeat (first | apply Kd.R_alloc | apply Kd.R_drewN | apply Kd.R_drew)); exact HO_471010000.out)) k_ hk))
   (case aO => exact (by (with_reducible repeat (first | apply Kd.S_alloc | apply Kd.S_drewN | apply Kd.S_drew)); exact Kd.S_mono HO_471010001.out (fun k_ hk => ⟨hk.1, fun e_ => hk.2 e_⟩)))
   (case aS => exact (below_size (by repeat (first | (with_reducible first | exact HB.out | apply below_alloc | apply pw_below_drewN | apply below_drew1 | refine below_set ?_ GE471001.out | refine below_set ?_ GE471002.out | refine below_set ?_ GE471009.out) | exact HB.out))))
   (case aL => have := LMc19.out; omega)
   intro v471015 w25 ho hb hg hat
   rw [← Ny471014.out] at ho
   have n0_ := Aside0.mk (Kd.R_over' (by (with_reducible repeat (first | apply Kd.R_alloc | apply Kd.R_drewN | apply Kd.R_drew)); exact HO_471010000.out) (Kd.S_typed (by (with_reducible repeat (first | apply Kd.S_alloc | apply Kd.S_drewN | apply Kd.S_drew)); exact HO_471010001.out)) (by decide) hg)
   have n1_ := Aside0.mk (blk_grown (g := gb471001) (o := .cells #[.slice A0_0 l0_0.length c0_0, .slice (some ad471010) l0_1.length c0_1] 30 (0, 0)) (by (with_reducible repeat (first | refine blk_drewN ?_ _ | refine blk_drew ?_ | refine blk_alloc ?_ _)); exact BK471001.out) hg (Kd.S_ne HO_471010001.out BK471001.out (by decide)))
   have n2_ := Aside0.mk (blk_grown (g := gb471002) (o := .cells #[.slice none 0 0, .slice none 0 0] 30 (0, 0)) (by (with_reducible repeat (first | refine blk_drewN ?_ _ | refine blk_drew ?_ | refine blk_alloc ?_ _)); exact BK471002.out) hg (Kd.S_ne HO_471010001.out BK471002.out (by decide)))
   have n3_ := Aside0.mk (blk_grown (g := gb471009) (o := .cells #[.slice Ao11 t471003.length co11, u471010001] 30 (0, 0)) (by (with_reducible repeat (first | refine blk_drewN ?_ _ | refine blk_drew ?_ | refine blk_alloc ?_ _)); exact BK471009.out) hg (Kd.S_ne HO_471010001.out BK471009.out (by decide)))
   have n4_ := Aside0.mk (hb)
   have n5_ := Aside0.mk (ho)
   clear HO_471010000
   clear BK471001
   clear BK471002
   clear BK471009
   clear HB
   clear HO_471010001
   clear HO471013
   have HO_471010000 := n0_
   have BK471001 := n1_
   have BK471002 := n2_
   have BK471009 := n3_
   have HB := n4_
   have HO471016 := n5_
   clear n0_ n1_ n2_ n3_ n4_ n5_
   clear ho hb hg hat
   obtain ⟨Ao27, co27, eo27⟩ := Kd.S_slice HO471016.out
   (first | subst eo27 | (injection eo27 with f1_ f2_ f3_; have f4_ := f1_.symm; have f5_ := f3_.symm; clear f1_ f2_ f3_; subst f4_; subst f5_))
   refine hK.out _ _ ⟨(blk_cell BK471009.out 0).trans rfl, (blk_cell BK471009.out 1).trans rfl, (blk_cell BK471001.out 0).trans rfl, (blk_cell BK471001.out 1).trans rfl, ((HB.out.cell (World.block_lt_of_cell? w _ hw471010_0)).trans hw471010_0)⟩ (fun hHeld => ?_)
   clear hK K
   refine norm_ (a' := ?_) ?_ ?_
   rotate_left
   ·show Act.put _ (some 26) _ = _
    simp only [Act.put, List.setIfInBounds_toArray, List.set_cons_zero, List.set_cons_succ, i64_w, i32_w]
    rfl
   refine pure_ (i := 10) (N := some 27) (v := ?_) (a' := ?_) bqFx47_11 rfl rfl (any_of HT_.out (by kernel_rfl)) (fun _ _ _ h => h) (Or.inl ⟨by rfl, ?_⟩) ?_ ?_
   rotate_left
   ·intro w'
    go_simp
    with_reducible rfl
   rotate_left
   ·simp only [Act.put, List.setIfInBounds_toArray, List.set_cons_zero, List.set_cons_succ, i64_w, i32_w]
    rfl
   refine last_ (i := 11) (N := none) bqFx47_12 rfl rfl (one_of HT_.out (by kernel_rfl)) (by decide) (fun K hK => ?_)
   have hs28 : w25.cell? ⟨gb471009, 1, none⟩ = some (u471010001) := (blk_cell BK471009.out 1).trans rfl
   have hfs28 := blk_frozen BK471009.out 1
   have hns28_0 := NB471001_471009.out
   have hns28_1 := NB471002_471009.out
   have hms28_0 := NB471009_471001.out
   have hms28_1 := NB471009_471002.out
   refine skip_ (w1 := ?_) (by rfl) rfl ?_ ?_
   rotate_left
   ·go_simp
    rfl
   refine hK.out _ _ ?_
   clear hK K
   refine done_ (done_of HT_.out (by kernel_rfl)) ?_
   try go_wp2
   go_roundg k1
   case measure => have := HK1.out; omega
   case rel => exact ⟨(wrap64 (x4_1 + 1)), (y471014), (.slice Ao27 y471014.length co27), (by first | rfl | (simp; done) | (simp [*]; done)), H', ⟨by have := HK1.out; omega⟩, ⟨by (with_reducible repeat (first | apply Kd.R_alloc | apply Kd.R_drewN | apply Kd.R_drew)); exact Kd.R_mono (Kd.R_far (p := ⟨gb471009, 1, none⟩) (Kd.R_types HO_471010000.out BK471009.out (by decide)) (fun _ hk => hk.2) (.slice Ao27 y471014.length co27)) (fun _ hk => trivial)⟩, ⟨by (with_reducible repeat (first | apply Kd.S_alloc | apply Kd.S_drewN | apply Kd.S_drew)); exact Kd.S_mono (Kd.S_far (p := ⟨gb471009, 1, none⟩) (Kd.S_types HO471016.out BK471009.out (by decide)) (fun _ hk => hk.2) (.slice Ao27 y471014.length co27)) (fun _ hk => hk.1)⟩, ⟨by (with_reducible repeat (first | refine blk_drewN ?_ _ | refine blk_drew ?_ | refine blk_alloc ?_ _)); refine blk_far ?_ NB471001_471009.out _; (with_reducible repeat (first | refine blk_drewN ?_ _ | refine blk_drew ?_ | refine blk_alloc ?_ _)); exact BK471001.out⟩, ⟨by (with_reducible repeat (first | refine blk_drewN ?_ _ | refine blk_drew ?_ | refine blk_alloc ?_ _)); refine blk_far ?_ NB471002_471009.out _; (with_reducible repeat (first | refine blk_drewN ?_ _ | refine blk_drew ?_ | refine blk_alloc ?_ _)); exact BK471002.out⟩, ⟨by (with_reducible repeat (first | refine blk_drewN ?_ _ | refine blk_drew ?_ | refine blk_alloc ?_ _)); refine blk_put (cs := #[.slice Ao11 t471003.length co11, u471010001]) ?_ 1 _ rfl; (with_reducible repeat (first | refine blk_drewN ?_ _ | refine blk_drew ?_ | refine blk_alloc ?_ _)); exact BK471009.out⟩, ⟨by repeat (first | (with_reducible first | exact HB.out | apply below_alloc | apply pw_below_drewN | apply below_drew1 | refine below_set ?_ GE471001.out | refine below_set ?_ GE471002.out | refine below_set ?_ GE471009.out) | exact HB.out)⟩⟩
end Go.Proofs.Ytmeggliapebkgaa.F
end
section
namespace Go.Proofs.Ytmeggliapebkgaa.Mem
open Go.RowKit Go.Proofs.YtmeggliapebkgaaW.PrintWords Go.Proofs.YtmeggliapebkgaaW.PrintLast
theorem nums_get (xs : List Int) (j : Nat) (h : j < xs.length) : (nums .i64 xs).toArray[j]? = some (.int .i64 (xs.getD j 0)) := by
  simp [nums, List.getElem?_eq_getElem h, List.getD_eq_getElem?_getD]
theorem nums_set (xs : List Int) (j : Nat) (x : Int) : (nums .i64 xs).toArray.setIfInBounds j (.int .i64 x) = (nums .i64 (xs.set j x)).toArray := by
  simp [nums, List.map_set]
theorem grown_refl (w : World) (row : Option Nat) : w.grownBy w row := ⟨rfl, rfl, rfl, Nat.le_refl _, fun _ _ _ => rfl⟩
theorem grown_trans {w w1 w2 : World} {row : Option Nat} (h : w.grownBy w1 row) (g : w1.grownBy w2 row) : w.grownBy w2 row :=
  ⟨g.os.trans h.os, g.tape.trans h.tape, g.output.trans h.output, Nat.le_trans h.size g.size, fun k hk hr => (g.block k (Nat.lt_of_lt_of_le hk h.size) hr).trans (h.block k hk hr)⟩
theorem grown_set {w w1 : World} {B : Nat} (h : w.grownBy w1 (some B)) (i : Nat) (u : Value) : w.grownBy (w1.setCell ⟨B, i, none⟩ u) (some B) :=
  ⟨h.os, h.tape, h.output, by simpa [World.setCell] using h.size, fun k hk hr => (Below.heap_setCell w1 ⟨B, i, none⟩ u k (fun e => hr (by rw [e]))).trans (h.block k hk hr)⟩
theorem grown_drewN {w w1 : World} {row : Option Nat} (h : w.grownBy w1 row) (n : Nat) : w.grownBy (w1.drewN n) row := ⟨h.os, h.tape, h.output, h.size, h.block⟩
theorem grown_drew {w w1 : World} {row : Option Nat} (h : w.grownBy w1 row) : w.grownBy w1.drew row := ⟨h.os, h.tape, h.output, h.size, h.block⟩
theorem grown_below {w w1 : World} (h : w.grownBy w1 none) : Below w.heap.size w w1 := ⟨h.os, h.tape, h.output, h.size, fun k hk => h.block k hk (by simp)⟩
theorem gb_of_below {w w1 : World} (h : Below w.heap.size w w1) (row : Option Nat) : w.grownBy w1 row := ⟨h.os, h.tape, h.output, h.size, fun k hk _ => h.block k hk⟩
theorem grown_of_none {w w1 : World} (h : w.grownBy w1 none) (row : Option Nat) : w.grownBy w1 row := gb_of_below (grown_below h) row
theorem below_grown {w0 w w1 : World} {B : Nat} (h : Below w0.heap.size w0 w) (g : w.grownBy w1 (some B)) (hB : w0.heap.size ≤ B) : Below w0.heap.size w0 w1 :=
  h.grown g h.size (fun k hk => by injection hk with hk; omega)
theorem cell_of_C {w : World} {A : Option Addr} {n : Nat} {xs : List Int} (h : Kd.C (Kd.int .i64) w A n xs) (j : Nat) (hj : j < n) : ∃ ad, A = some ad ∧ w.cell? (ad.add j) = some (.int .i64 (xs.getD j 0)) := by
  obtain ⟨hl, _, hc⟩ := h
  obtain ⟨ad, e, hc⟩ := hc (by omega)
  have hjl : j < xs.length := by omega
  obtain ⟨c, hc1, hc2, hc3⟩ := hc j _ (List.getElem?_eq_getElem hjl)
  refine ⟨ad, e, ?_⟩
  have hc2' : c = [.int .i64 xs[j]] := hc2
  have := hc3 0 _ (by rw [hc2']; rfl)
  rw [show (Kd.int .i64).sz = 1 from rfl, Nat.mul_one, Nat.add_zero] at this
  rw [this, List.getD_eq_getElem?_getD, List.getElem?_eq_getElem hjl]; rfl
theorem reps_nums {w : World} {base : Nat} {ok : Nat → Prop} (xs : List Int) : Reps ((Kd.int .i64).M w base ok) 1 xs (nums .i64 xs) := by
  refine ⟨by simp [nums], fun j p hj => ?_⟩
  show ((nums .i64 xs).drop (j * 1)).take 1 = [.int .i64 p]
  have hj' := List.getElem?_eq_some_iff.1 hj
  rw [Nat.mul_one, List.drop_eq_getElem_cons (by simp [nums]; exact hj'.1)]
  simp [nums, hj'.2]
theorem R_of_block {w : World} {B m : Nat} {xs : List Int} {e : Nat} (hb : w.heap[B]? = some (.cells (nums .i64 xs).toArray e (0, 0))) (hl : xs.length = m) (hm : m ≤ maxLen) {base : Nat} (hbase : base ≤ B) :
    Kd.R (Kd.int .i64) e w base (fun _ => True) (.slice (some ⟨B, 0, none⟩) m m) xs := by
  refine ⟨fun _ _ => trivial, nums .i64 xs, ⟨?_, .inr ⟨B, m, _, by rw [hl], hbase, hb, by omega, hm, ?_, ?_⟩⟩, ?_⟩
  · show _ = xs.length * 1
    simp [nums]
  · show _ = m * 1
    simp [nums, hl]
  · show List.take (xs.length * 1) _ = _
    rw [Nat.mul_one]
    exact List.take_of_length_le (by simp [nums])
  · exact reps_nums xs
theorem R_of_block_ok {w : World} {B m : Nat} {xs : List Int} {e : Nat} (hb : w.heap[B]? = some (.cells (nums .i64 xs).toArray e (0, 0))) (hl : xs.length = m) (hm : m ≤ maxLen) {base : Nat} (hbase : base ≤ B) (ok : Nat → Prop) (hok : ok B) :
    Kd.R (Kd.int .i64) e w base ok (.slice (some ⟨B, 0, none⟩) m m) xs := by
  obtain ⟨_, inner, ho, _⟩ := R_of_block hb hl hm hbase
  have hi : inner = nums .i64 xs := by
    obtain ⟨h1, h2⟩ := ho
    rcases h2 with ⟨h3, _⟩ | ⟨g, cap, cur, h3, _, h4, _, _, _, h5⟩
    · exact absurd h3 (by simp)
    · injection h3 with h3 _ _
      injection h3 with h3
      injection h3 with h3 _ _
      subst h3
      rw [hb] at h4
      injection h4 with h4
      injection h4 with h4 _ _
      rw [← h5, ← h4]
      exact List.take_of_length_le (by simp [nums]; show xs.length ≤ xs.length * 1; omega)
  subst hi
  exact ⟨fun k hk => by simp [Value.ownBlock] at hk; rw [← hk]; exact hok, nums .i64 xs, ho, reps_nums xs⟩
theorem R_of_own {w : World} {base e : Nat} {v : Value} {xs : List Int} (h : w.ownsRow base e 1 v xs.length (nums .i64 xs)) : Kd.R (Kd.int .i64) e w base (fun k => base ≤ k) v xs :=
  ⟨fun k hk => own_base h k hk, nums .i64 xs, h, reps_nums xs⟩
theorem new_at {w : World} {o : Obj} {B : Nat} (h : B = w.heap.size) : (w.alloc o).heap[B]? = some o := by subst h; exact blk_new w o
theorem made_nums (m : Nat) : madeCells (Value.cells (.int .i64 0)) m = (nums .i64 (List.replicate m 0)).toArray := by
  apply Array.ext
  · rw [size_madeCells]; simp [nums]
  · intro j h1 h2
    have hj : j < m := by rw [size_madeCells] at h1; exact h1
    simp [madeCells, nums, Value.cells, Nat.mod_one]
theorem make_ints {P : Program} {t e : TypeId} (ht : P.underlying t = some (.slice e)) (hinfo : (P.info? e).map (fun i => (i.zero, i.size, i.bytes)) = some (some (.int .i64 0), 1, 8)) (x : Int) (m : Nat) (hx : x = (m : Int)) (hm : m ≤ 35184372088832) (W : World) :
    (Instr.makeSlice t (.int .i64 x) (.int .i64 x)).run P W = .ok (.slice (some ⟨W.heap.size, 0, none⟩) m m) (W.alloc (.cells (nums .i64 (List.replicate m 0)).toArray e)) := by
  subst hx
  obtain ⟨i0, hi, hzz⟩ := Option.map_eq_some_iff.1 hinfo
  simp only [Prod.mk.injEq] at hzz
  obtain ⟨hz0, hz1, hz2⟩ := hzz
  have h := run_make (P := P) W t e i0 (.int .i64 0) ht hi hz0 .i64 .i64 m m (by omega) (Int.le_refl _) (by rw [hz2]; omega) (by omega)
  rw [h, Int.toNat_natCast, hz1, Nat.mul_one, made_nums]
def ints (l : List Nat) : List Int := l.map fun i : Nat => (i : Int)
theorem ints_len (l : List Nat) : (ints l).length = l.length := by simp [ints]
theorem ints_app (l m : List Nat) : ints (l ++ m) = ints l ++ ints m := by simp [ints]
theorem ints_getD (l : List Nat) (j : Nat) (h : j < l.length) : (ints l).getD j 0 = ((l.getD j 0 : Nat) : Int) := by
  unfold ints
  rw [List.getD_eq_getElem?_getD, List.getD_eq_getElem?_getD, List.getElem?_map, List.getElem?_eq_getElem h]; rfl
end Go.Proofs.Ytmeggliapebkgaa.Mem
end
section
namespace Go.Proofs.Ytmeggliapebkgaa.Web
set_option linter.unusedVariables false
set_option linter.unusedSimpArgs false
def inc (legs : List Int) (forks : List (List Int)) : List (Int × Nat) := legs.zipIdx ++ (forks.zipIdx legs.length).flatMap fun p => p.1.map fun e => (e, p.2)
def ends (I : List (Int × Nat)) (e : Int) : List Nat := (I.filter fun p => p.1 == e).map fun p => p.2
theorem mem_ends {I : List (Int × Nat)} {e : Int} {u : Nat} : u ∈ ends I e ↔ (e, u) ∈ I := by
  unfold ends
  rw [List.mem_map]
  constructor
  · rintro ⟨p, hp, rfl⟩
    obtain ⟨h1, h2⟩ := List.mem_filter.1 hp
    rw [← eq_of_beq h2]; exact h1
  · exact fun h => ⟨_, List.mem_filter.2 ⟨h, by simp⟩, rfl⟩
def J (I : List (Int × Nat)) (u v : Nat) : Prop := ∃ e, (e, u) ∈ I ∧ (e, v) ∈ I
theorem J.symm {I : List (Int × Nat)} {u v : Nat} (h : J I u v) : J I v u := by obtain ⟨e, a, b⟩ := h; exact ⟨e, b, a⟩
inductive Reach (I : List (Int × Nat)) : Nat → Nat → Prop
  | refl (v : Nat) : Reach I v v
  | step {u v x : Nat} : Reach I u v → J I v x → Reach I u x
theorem Reach.trans {I : List (Int × Nat)} {a b c : Nat} (h : Reach I a b) (g : Reach I b c) : Reach I a c := by
  induction g with
  | refl => exact h
  | step _ j ih => exact .step ih j
theorem Reach.symm {I : List (Int × Nat)} {a b : Nat} (h : Reach I a b) : Reach I b a := by
  induction h with
  | refl => exact .refl _
  | step _ j ih => exact (Reach.step (.refl _) j.symm).trans ih
theorem least (P : Nat → Prop) : ∀ n, P n → ∃ m, P m ∧ ∀ k, P k → m ≤ k := by
  intro n
  induction n using Nat.strongRecOn with
  | ind n ih =>
    intro h
    by_cases g : ∃ k, k < n ∧ P k
    · obtain ⟨k, hk, hp⟩ := g; exact ih k hk hp
    · exact ⟨n, h, fun k hk => Nat.le_of_not_lt fun hlt => g ⟨k, hlt, hk⟩⟩
noncomputable def lbl (I : List (Int × Nat)) (v : Nat) : Nat := Classical.choose (least (Reach I v) v (.refl v))
theorem lbl_reach (I : List (Int × Nat)) (v : Nat) : Reach I v (lbl I v) := (Classical.choose_spec (least (Reach I v) v (.refl v))).1
theorem lbl_least {I : List (Int × Nat)} {v k : Nat} (h : Reach I v k) : lbl I v ≤ k := (Classical.choose_spec (least (Reach I v) v (.refl v))).2 k h
theorem lbl_le (I : List (Int × Nat)) (v : Nat) : lbl I v ≤ v := lbl_least (.refl v)
theorem lbl_same {I : List (Int × Nat)} {u v : Nat} (h : Reach I u v) : lbl I u = lbl I v :=
  Nat.le_antisymm (lbl_least (h.trans (lbl_reach I v))) (lbl_least (h.symm.trans (lbl_reach I u)))
theorem lbl_one {I : List (Int × Nat)} {u v : Nat} (h : J I u v) : lbl I u = lbl I v := lbl_same (.step (.refl _) h)
theorem lbl_idem (I : List (Int × Nat)) (v : Nat) : lbl I (lbl I v) = lbl I v := (lbl_same (lbl_reach I v)).symm
theorem lbl_two {I : List (Int × Nat)} {S : Nat → Prop} (hS : ∀ u v, J I u v → S u → S v) {v : Nat} (h : S v) : S (lbl I v) := by
  have key : ∀ {a b}, Reach I a b → S a → S b := by
    intro a b hr
    induction hr with
    | refl => exact fun h => h
    | step _ j ih => exact fun h => hS _ _ j (ih h)
  exact key (lbl_reach I v) h
def at_ (out : List Nat) (v : Nat) : Nat := out.getD v 0
structure Fits (I : List (Int × Nat)) (n : Nat) (out : List Nat) : Prop where
  len : out.length = n
  le : ∀ v, v < n → at_ out v ≤ v
  cls : ∀ v, v < n → lbl I (at_ out v) = lbl I v
theorem Fits.ge {I : List (Int × Nat)} {n : Nat} {out : List Nat} (h : Fits I n out) {v : Nat} (hv : v < n) : lbl I v ≤ at_ out v := by
  rw [← h.cls v hv]; exact lbl_le _ _
theorem at_set {out : List Nat} {i v x : Nat} (hi : i < out.length) : at_ (out.set i x) v = if v = i then x else at_ out v := by
  unfold at_
  rw [List.getD_eq_getElem?_getD, List.getElem?_set]
  by_cases e : i = v
  · rw [if_pos e, if_pos (by omega), if_pos e.symm]; rfl
  · rw [if_neg e, if_neg (Ne.symm e), ← List.getD_eq_getElem?_getD]
def low2 (out : List Nat) (a b : Nat) : Nat := min (at_ out a) (at_ out b)
def relax2 (out : List Nat) (a b : Nat) : List Nat := (out.set a (low2 out a b)).set b (low2 out a b)
theorem relax2_at {out : List Nat} {a b v : Nat} (ha : a < out.length) (hb : b < out.length) : at_ (relax2 out a b) v = if v = a ∨ v = b then low2 out a b else at_ out v := by
  unfold relax2
  rw [at_set (by rw [List.length_set]; exact hb), at_set ha]
  by_cases e : v = b
  · rw [if_pos e, if_pos (.inr e)]
  · rw [if_neg e]
    by_cases g : v = a
    · rw [if_pos g, if_pos (.inl g)]
    · rw [if_neg g, if_neg (by rintro (h | h); exact g h; exact e h)]
theorem Fits.relax {I : List (Int × Nat)} {n : Nat} {out : List Nat} (h : Fits I n out) {a b : Nat} (ha : a < n) (hb : b < n) (hj : J I a b) : Fits I n (relax2 out a b) := by
  have hl := h.len
  have e := lbl_one hj
  have h1 := h.le a ha
  have h2 := h.le b hb
  have c1 := h.cls a ha
  have c2 := h.cls b hb
  have g1 := h.ge ha
  have g2 := h.ge hb
  refine ⟨by unfold relax2; rw [List.length_set, List.length_set]; exact hl, fun v hv => ?_, fun v hv => ?_⟩
  · rw [relax2_at (by omega) (by omega)]
    split
    · rename_i g; unfold low2
      rcases g with g | g <;> subst g
      · omega
      · omega
    · exact h.le v hv
  · rw [relax2_at (by omega) (by omega)]
    split
    · rename_i g
      have : lbl I (low2 out a b) = lbl I a := by
        unfold low2
        rcases Nat.le_total (at_ out a) (at_ out b) with q | q
        · rw [Nat.min_eq_left q]; exact c1
        · rw [Nat.min_eq_right q, c2]; exact e.symm
      rcases g with g | g <;> subst g
      · exact this
      · rw [this]; exact e
    · exact h.cls v hv
theorem relax2_le {I : List (Int × Nat)} {n : Nat} {out : List Nat} (h : Fits I n out) {a b v : Nat} (ha : a < n) (hb : b < n) : at_ (relax2 out a b) v ≤ at_ out v := by
  have hl := h.len
  rw [relax2_at (by omega) (by omega)]
  split
  · rename_i g; unfold low2
    rcases g with g | g <;> subst g
    · exact Nat.min_le_left _ _
    · exact Nat.min_le_right _ _
  · exact Nat.le_refl _
def Set_ (I : List (Int × Nat)) (out : List Nat) (v : Nat) : Prop := at_ out v = lbl I v
theorem Set_.keep {I : List (Int × Nat)} {n : Nat} {out : List Nat} (h : Fits I n out) {a b v : Nat} (ha : a < n) (hb : b < n) (hj : J I a b) (hv : v < n) (hs : Set_ I out v) : Set_ I (relax2 out a b) v := by
  have h1 := relax2_le h ha hb (v := v)
  have h2 := (h.relax ha hb hj).ge hv
  unfold Set_ at *
  omega
theorem Set_.both {I : List (Int × Nat)} {n : Nat} {out : List Nat} (h : Fits I n out) {a b : Nat} (ha : a < n) (hb : b < n) (hj : J I a b) (hs : Set_ I out a ∨ Set_ I out b) : Set_ I (relax2 out a b) a ∧ Set_ I (relax2 out a b) b := by
  have hl := h.len
  have e := lbl_one hj
  have g1 := h.ge ha
  have g2 := h.ge hb
  unfold Set_ at *
  rw [relax2_at (by omega) (by omega), relax2_at (by omega) (by omega), if_pos (.inl rfl), if_pos (.inr rfl)]
  unfold low2
  rcases hs with hs | hs <;> omega
def relax (I : List (Int × Nat)) (out : List Nat) (e : Int) : List Nat := relax2 out ((ends I e).getD 0 0) ((ends I e).getD 1 0)
structure Two (I : List (Int × Nat)) (n : Nat) : Prop where
  two : ∀ e u, (e, u) ∈ I → (ends I e).length = 2
  lt : ∀ e u, (e, u) ∈ I → u < n
theorem Two.at_ {I : List (Int × Nat)} {n : Nat} (h : Two I n) {e : Int} {u : Nat} (he : (e, u) ∈ I) : ∃ a b, ends I e = [a, b] ∧ a < n ∧ b < n ∧ J I a b ∧ (u = a ∨ u = b) := by
  have h2 := h.two e u he
  match hh : ends I e, h2 with
  | [a, b], _ =>
    have ha : (e, a) ∈ I := mem_ends.1 (by rw [hh]; simp)
    have hb : (e, b) ∈ I := mem_ends.1 (by rw [hh]; simp)
    have hu : u ∈ ends I e := mem_ends.2 he
    rw [hh] at hu
    exact ⟨a, b, rfl, h.lt e a ha, h.lt e b hb, ⟨e, ha, hb⟩, by simpa using hu⟩
theorem fold_keep {I : List (Int × Nat)} {n : Nat} (h2 : Two I n) : ∀ (L : List Int) (out : List Nat), (∀ e ∈ L, ∃ u, (e, u) ∈ I) → Fits I n out → Fits I n (L.foldl (relax I) out) ∧ ∀ v, v < n → Set_ I out v → Set_ I (L.foldl (relax I) out) v
  | [], out, _, h => ⟨h, fun _ _ hs => hs⟩
  | e :: L, out, hL, h => by
    obtain ⟨u, hu⟩ := hL e List.mem_cons_self
    obtain ⟨a, b, he, ha, hb, hj, _⟩ := h2.at_ hu
    have hr : relax I out e = relax2 out a b := by unfold relax; rw [he]; rfl
    rw [List.foldl_cons, hr]
    have ih := fold_keep h2 L (relax2 out a b) (fun e he => hL e (List.mem_cons_of_mem _ he)) (h.relax ha hb hj)
    exact ⟨ih.1, fun v hv hs => ih.2 v hv (hs.keep h ha hb hj hv)⟩
theorem fold_step {I : List (Int × Nat)} {n : Nat} (h2 : Two I n) {u v : Nat} (hu : u < n) {e : Int} (hue : (e, u) ∈ I) (hve : (e, v) ∈ I) : ∀ (L : List Int) (out : List Nat), (∀ e ∈ L, ∃ u, (e, u) ∈ I) → Fits I n out → e ∈ L → Set_ I out u → Set_ I (L.foldl (relax I) out) v
  | [], _, _, _, h, _ => absurd h (by simp)
  | c :: L, out, hL, h, hm, hs => by
    obtain ⟨z, hz⟩ := hL c List.mem_cons_self
    obtain ⟨a, b, he, ha, hb, hj, _⟩ := h2.at_ hz
    have hr : relax I out c = relax2 out a b := by unfold relax; rw [he]; rfl
    rw [List.foldl_cons, hr]
    by_cases g : e = c
    · subst g
      have h1 : u ∈ ends I e := mem_ends.2 hue
      have h3 : v ∈ ends I e := mem_ends.2 hve
      rw [he] at h1 h3
      have hb2 := Set_.both h ha hb hj (by simp at h1; rcases h1 with q | q <;> subst q; exact .inl hs; exact .inr hs)
      refine (fold_keep h2 L _ (fun e he => hL e (List.mem_cons_of_mem _ he)) (h.relax ha hb hj)).2 v (h2.lt e v hve) ?_
      simp at h3
      rcases h3 with q | q <;> subst q
      · exact hb2.1
      · exact hb2.2
    · exact fold_step h2 hu hue hve L _ (fun e he => hL e (List.mem_cons_of_mem _ he)) (h.relax ha hb hj) (by
        rcases List.mem_cons.1 hm with q | q
        · exact absurd q g
        · exact q) (hs.keep h ha hb hj hu)
def Round (I : List (Int × Nat)) (out out' : List Nat) : Prop := ∃ L : List Int, (∀ e, e ∈ L ↔ ∃ u, (e, u) ∈ I) ∧ out' = L.foldl (relax I) out
inductive Rounds (I : List (Int × Nat)) (n : Nat) : Nat → List Nat → Prop
  | zero : Rounds I n 0 (List.range n)
  | succ {t : Nat} {out out' : List Nat} : Rounds I n t out → Round I out out' → Rounds I n (t + 1) out'
def cnt (p : Nat → Bool) : Nat → Nat
  | 0 => 0
  | n + 1 => cnt p n + if p n = true then 1 else 0
theorem cnt_le (p : Nat → Bool) : ∀ n, cnt p n ≤ n
  | 0 => Nat.le_refl _
  | n + 1 => by have := cnt_le p n; rw [cnt]; split <;> omega
theorem cnt_mono {p q : Nat → Bool} : ∀ n, (∀ v, v < n → p v = true → q v = true) → cnt p n ≤ cnt q n
  | 0, _ => Nat.le_refl _
  | n + 1, h => by
    have := cnt_mono n (fun v hv => h v (by omega))
    rw [cnt, cnt]
    by_cases g : p n = true
    · rw [if_pos g, if_pos (h n (by omega) g)]; omega
    · rw [if_neg g]; split <;> omega
theorem cnt_lt {p q : Nat → Bool} {v : Nat} (hp : p v = false) (hq : q v = true) : ∀ n, v < n → (∀ v, v < n → p v = true → q v = true) → cnt p n < cnt q n
  | 0, h, _ => absurd h (by omega)
  | n + 1, hv, h => by
    rw [cnt, cnt]
    by_cases e : v = n
    · subst e
      have := cnt_mono v (fun x hx => h x (by omega))
      rw [hp, hq]; simp; omega
    · have := cnt_lt hp hq n (by omega) (fun x hx => h x (by omega))
      by_cases g : p n = true
      · rw [if_pos g, if_pos (h n (by omega) g)]; omega
      · rw [if_neg g]; split <;> omega
theorem cnt_pos {p : Nat → Bool} {v : Nat} (hp : p v = true) : ∀ n, v < n → 1 ≤ cnt p n := by
  intro n hv
  have := cnt_lt (p := fun _ => false) (q := p) (v := v) rfl hp n hv (fun _ _ h => absurd h (by simp))
  omega
theorem range_fits (I : List (Int × Nat)) (n : Nat) : Fits I n (List.range n) := by
  have h : ∀ v, v < n → at_ (List.range n) v = v := fun v hv => by unfold at_; rw [List.getD_eq_getElem?_getD, List.getElem?_range hv]; rfl
  exact ⟨by simp, fun v hv => by rw [h v hv]; exact Nat.le_refl _, fun v hv => by rw [h v hv]⟩
theorem rounds_fits {I : List (Int × Nat)} {n : Nat} (h2 : Two I n) {t : Nat} {out : List Nat} (h : Rounds I n t out) : Fits I n out := by
  induction h with
  | zero => exact range_fits I n
  | succ _ hr ih =>
    obtain ⟨L, hL, rfl⟩ := hr
    exact (fold_keep h2 L _ (fun e he => (hL e).1 he) ih).1
theorem rounds_count {I : List (Int × Nat)} {n : Nat} (h2 : Two I n) {t : Nat} {out : List Nat} (h : Rounds I n t out) (m : Nat) (hm : m < n) (hmm : lbl I m = m) :
    (∀ v, v < n → lbl I v = m → Set_ I out v) ∨ t + 1 ≤ cnt (fun v => decide (lbl I v = m ∧ at_ out v = lbl I v)) n := by
  induction h with
  | zero =>
    refine .inr (cnt_pos (v := m) (decide_eq_true ⟨hmm, ?_⟩) n hm)
    have h := range_fits I n
    have := h.le m hm
    have := h.ge hm
    omega
  | @succ t out out' hr hro ih =>
    have hF := rounds_fits h2 hr
    obtain ⟨L, hL, rfl⟩ := hro
    have hk := fold_keep h2 L out (fun e he => (hL e).1 he) hF
    rcases ih with ih | ih
    · exact .inl fun v hv hvm => hk.2 v hv (ih v hv hvm)
    · by_cases hall : ∀ v, v < n → lbl I v = m → Set_ I out v
      · exact .inl fun v hv hvm => hk.2 v hv (hall v hv hvm)
      · refine .inr ?_
        have hcross : ∃ u v, J I u v ∧ u < n ∧ v < n ∧ lbl I u = m ∧ Set_ I out u ∧ ¬ Set_ I out v := by
          refine Classical.byContradiction fun hno => hall fun v hv hvm => Classical.byContradiction fun hs => ?_
          have hcl : ∀ u w, J I u w → ¬ (lbl I u = m ∧ Set_ I out u) → ¬ (lbl I w = m ∧ Set_ I out w) := by
            intro u w hj hnu hw
            obtain ⟨e, h1, h3⟩ := hj
            refine hno ⟨w, u, ⟨e, h3, h1⟩, h2.lt e w h3, h2.lt e u h1, hw.1, hw.2, fun hsu => hnu ⟨?_, hsu⟩⟩
            rw [lbl_one ⟨e, h1, h3⟩]; exact hw.1
          have := lbl_two hcl (v := v) (fun h => hs h.2)
          rw [hvm] at this
          refine this ⟨hmm, ?_⟩
          have h3 := hF.le m hm
          have h4 := hF.ge hm
          unfold Set_; omega
        obtain ⟨u, v, ⟨e, hue, hve⟩, hu, hv, hum, hsu, hsv⟩ := hcross
        have hsv2 := fold_step h2 hu hue hve L out (fun e he => (hL e).1 he) hF ((hL e).2 ⟨u, hue⟩) hsu
        have hvm : lbl I v = m := by rw [← hum]; exact (lbl_one ⟨e, hue, hve⟩).symm
        have := cnt_lt (p := fun v => decide (lbl I v = m ∧ at_ out v = lbl I v)) (q := fun v => decide (lbl I v = m ∧ at_ (L.foldl (relax I) out) v = lbl I v)) (v := v) (decide_eq_false fun h => hsv h.2) (decide_eq_true ⟨hvm, hsv2⟩) n hv (fun x hx hp => by
          have hp := of_decide_eq_true hp
          exact decide_eq_true ⟨hp.1, hk.2 x hx hp.2⟩)
        omega
theorem fits_eq {I : List (Int × Nat)} {n : Nat} {out : List Nat} (h : Fits I n out) (hs : ∀ v, v < n → Set_ I out v) : out = (List.range n).map (lbl I) := by
  apply List.ext_getElem
  · rw [h.len]; simp
  · intro v h1 h2
    have hv : v < n := by rw [← h.len]; exact h1
    have := hs v hv
    unfold Set_ at_ at this
    rw [List.getD_eq_getElem?_getD, List.getElem?_eq_getElem h1] at this
    simpa using this
theorem rounds_lbl {I : List (Int × Nat)} {n : Nat} (h2 : Two I n) {out : List Nat} (h : Rounds I n n out) : out = (List.range n).map (lbl I) := by
  have hF := rounds_fits h2 h
  refine fits_eq hF fun v hv => ?_
  rcases rounds_count h2 h (lbl I v) (Nat.lt_of_le_of_lt (lbl_le I v) hv) (lbl_idem I v) with hh | hh
  · exact hh v hv rfl
  · have := cnt_le (fun x => decide (lbl I x = lbl I v ∧ at_ out x = lbl I x)) n
    omega
theorem fixed_lbl {I : List (Int × Nat)} {n : Nat} (hlt : ∀ e u, (e, u) ∈ I → u < n) {out : List Nat} (hF : Fits I n out) (hj : ∀ u v, J I u v → at_ out u = at_ out v) : out = (List.range n).map (lbl I) := by
  refine fits_eq hF fun v hv => ?_
  have := lbl_two (I := I) (S := fun x => x < n ∧ at_ out x = at_ out v) (fun a b hab h => by
    obtain ⟨e, h1, h2⟩ := hab
    exact ⟨hlt e b h2, by rw [← h.2]; exact (hj a b ⟨e, h1, h2⟩).symm⟩) (v := v) ⟨hv, rfl⟩
  have h1 := hF.le _ this.1
  have h2 := hF.ge hv
  unfold Set_; omega
theorem mem_inc {legs : List Int} {forks : List (List Int)} {e : Int} {u : Nat} : (e, u) ∈ inc legs forks ↔ legs[u]? = some e ∨ (legs.length ≤ u ∧ ∃ f, forks[u - legs.length]? = some f ∧ e ∈ f) := by
  unfold inc
  rw [List.mem_append, List.mem_zipIdx_iff_getElem?, List.mem_flatMap]
  constructor
  · rintro (h | ⟨p, hp, he⟩)
    · exact .inl h
    · obtain ⟨e', he', hq⟩ := List.mem_map.1 he
      simp only [Prod.mk.injEq] at hq
      obtain ⟨rfl, rfl⟩ := hq
      obtain ⟨f, q⟩ := p
      have := List.mk_mem_zipIdx_iff_le_and_getElem?_sub.1 hp
      exact .inr ⟨this.1, f, this.2, he'⟩
  · rintro (h | ⟨h1, f, hf, he⟩)
    · exact .inl h
    · exact .inr ⟨(f, u), List.mk_mem_zipIdx_iff_le_and_getElem?_sub.2 ⟨h1, hf⟩, List.mem_map.2 ⟨e, he, rfl⟩⟩
theorem inc_lt {legs : List Int} {forks : List (List Int)} {e : Int} {u : Nat} (h : (e, u) ∈ inc legs forks) : u < legs.length + forks.length := by
  rcases mem_inc.1 h with h | ⟨h1, f, hf, _⟩
  · have := (List.getElem?_eq_some_iff.1 h).1; omega
  · have := (List.getElem?_eq_some_iff.1 hf).1; omega
def twiceB (legs : List Int) (forks : List (List Int)) : Bool := (inc legs forks).all fun p => decide (0 ≤ p.1 ∧ p.1 ≤ 1000) && (ends (inc legs forks) p.1).length == 2
noncomputable def rootedB (legs : List Int) (forks : List (List Int)) : Bool := (List.range (legs.length + forks.length)).all fun v => decide (lbl (inc legs forks) v < legs.length)
noncomputable def isWebB (legs : List Int) (forks : List (List Int)) : Bool := decide (legs.length + forks.length ≤ 8) && (forks.all fun f => f.length == 3) && twiceB legs forks && rootedB legs forks
theorem twice_two {legs : List Int} {forks : List (List Int)} (h : twiceB legs forks = true) : Two (inc legs forks) (legs.length + forks.length) := by
  refine ⟨fun e u he => ?_, fun e u he => inc_lt he⟩
  have := List.all_eq_true.1 h _ he
  simp only [Bool.and_eq_true, beq_iff_eq] at this
  exact this.2
end Go.Proofs.Ytmeggliapebkgaa.Web
end
section
namespace Go.Proofs.Ytmeggliapebkgaa.Web
open Go.RowKit Go.ChangeShapes Go.Proofs.Ytmeggliapebkgaa.Mem
set_option linter.unusedVariables false
set_option linter.unusedSimpArgs false
def keyL (e : Int) : Lit := .int .i64 e
def valD (l : List Nat) : DataW Unit := .slice (lits .i64 (ints l)) []
theorem ends_snoc (L : List (Int × Nat)) (e' e : Int) (u : Nat) : ends (L ++ [(e', u)]) e = if e' = e then ends L e ++ [u] else ends L e := by
  unfold ends
  rw [List.filter_append, List.map_append]
  by_cases h : e' = e
  · rw [if_pos h, List.filter_cons_of_pos (by simpa using h)]; rfl
  · rw [if_neg h, List.filter_cons_of_neg (by simpa using h)]; simp
theorem take_snocD {α : Type} (I : List α) (p : Nat) (d : α) (h : p < I.length) : I.take (p + 1) = I.take p ++ [I.getD p d] := by
  rw [List.take_succ_eq_append_getElem h, List.getD_eq_getElem?_getD, List.getElem?_eq_getElem h]; rfl
def GTo (I : List (Int × Nat)) : Nat → DataW Unit
  | 0 => .map []
  | p + 1 => (GTo I p).put (keyL (I.getD p (0, 0)).1) (valD (ends (I.take (p + 1)) (I.getD p (0, 0)).1))
theorem GTo_isMap (I : List (Int × Nat)) : ∀ p, Maps.IsMap (GTo I p)
  | 0 => Maps.isMap_empty
  | p + 1 => (GTo_isMap I p).put _ _
theorem key_ne {e e' : Int} (h : e ≠ e') : keyL e ≠ keyL e' := fun g => h (by unfold keyL at g; injection g)
theorem GTo_at (I : List (Int × Nat)) (e : Int) (z : DataW Unit) : ∀ p, p ≤ I.length → (GTo I p).atKey (keyL e) z = if ends (I.take p) e = [] then z else valD (ends (I.take p) e)
  | 0, _ => rfl
  | p + 1, hp => by
    have ih := GTo_at I e z p (by omega)
    rw [GTo]
    obtain ⟨⟨e', u⟩, hq⟩ : ∃ q, q = I.getD p (0, 0) := ⟨_, rfl⟩
    have ht := take_snocD I p (0, 0) (by omega)
    rw [← hq] at ht ⊢
    by_cases h : e' = e
    · subst h
      rw [Maps.atKey_put_same (GTo_isMap I p) (show WideAt.IsKeyLit (keyL e') from trivial), ht, ends_snoc, if_pos rfl, if_neg (by simp)]
    · rw [Maps.atKey_put_other (key_ne (Ne.symm h)), ih, ht, ends_snoc, if_neg h]
theorem GTo_has (I : List (Int × Nat)) (e : Int) : ∀ p, p ≤ I.length → Maps.has (GTo I p) (keyL e) = !(ends (I.take p) e).isEmpty
  | 0, _ => rfl
  | p + 1, hp => by
    have ih := GTo_has I e p (by omega)
    rw [GTo]
    obtain ⟨⟨e', u⟩, hq⟩ : ∃ q, q = I.getD p (0, 0) := ⟨_, rfl⟩
    have ht := take_snocD I p (0, 0) (by omega)
    rw [← hq] at ht ⊢
    by_cases h : e' = e
    · subst h
      rw [Maps.has_put_same (GTo_isMap I p) (show WideAt.IsKeyLit (keyL e') from trivial), ht, ends_snoc, if_pos rfl]; simp
    · rw [Maps.has_put_other (key_ne (Ne.symm h)), ih, ht, ends_snoc, if_neg h]
theorem lits_inj {l m : List Int} (h : (lits .i64 l : List (DataW Unit)) = lits .i64 m) : l = m := (List.map_inj_right (fun a b hab => by injection hab with hab; injection hab)).1 h
theorem GTo_zs {w : World} {base e0 : Nat} {v : Value} {zs : List Int} {I : List (Int × Nat)} {p : Nat} {e : Int} (hp : p ≤ I.length) (hoi : w.ownsInts base e0 .i64 v zs) (hat : (GTo I p).atKey (keyL e) .nil = rowDatum .i64 v zs) : zs = ints (ends (I.take p) e) := by
  rw [GTo_at I e .nil p hp] at hat
  by_cases h : ends (I.take p) e = []
  · rw [if_pos h] at hat
    rcases hoi.datum (H := Unit) with ⟨_, h0⟩ | h1
    · rw [h0, h]; rfl
    · rw [h1] at hat; cases hat
  · rw [if_neg h] at hat
    rcases hoi.datum (H := Unit) with ⟨h1, _⟩ | h1
    · rw [h1] at hat; cases hat
    · rw [h1] at hat
      unfold valD at hat
      injection hat with hat _
      exact (lits_inj hat).symm
theorem GTo_step {w : World} {base e0 : Nat} {v' : Value} {zs : List Int} {I : List (Int × Nat)} {p : Nat} {e : Int} {u : Nat} (hp : p < I.length) (hI : I.getD p (0, 0) = (e, u)) (hz : zs = ints (ends (I.take p) e)) (hoi : w.ownsInts base e0 .i64 v' (zs ++ [(u : Int)])) : GTo I (p + 1) = (GTo I p).put (keyL e) (rowDatum .i64 v' (zs ++ [(u : Int)])) := by
  rw [GTo, hI, hoi.datum_pos (by simp), take_snocD I p (0, 0) hp, hI]
  unfold valD
  rw [ends_snoc, if_pos rfl, ints_app, hz]; rfl
theorem inc_leg {legs : List Int} {forks : List (List Int)} {k : Nat} (h : k < legs.length) : (inc legs forks).getD k (0, 0) = (legs.getD k 0, k) := by
  unfold inc
  rw [List.getD_eq_getElem?_getD, List.getElem?_append_left (by simpa using h), List.getElem?_zipIdx, List.getElem?_eq_getElem h, List.getD_eq_getElem?_getD, List.getElem?_eq_getElem h]; simp
theorem flat3 : ∀ (F : List (List Int)) (s i k : Nat), (∀ f ∈ F, f.length = 3) → i < F.length → k < 3 → ((F.zipIdx s).flatMap fun p => p.1.map fun e => (e, p.2))[3 * i + k]? = some ((F.getD i []).getD k 0, s + i)
  | [], _, i, _, _, h, _ => absurd h (by simp)
  | f :: F, s, 0, k, h3, _, hk => by
    have hf := h3 f List.mem_cons_self
    rw [List.zipIdx_cons, List.flatMap_cons, List.getElem?_append_left (by simp; omega)]
    rw [List.getElem?_map, List.getElem?_eq_getElem (by simp; omega)]
    simp [List.getElem?_eq_getElem (show k < f.length from by omega)]
  | f :: F, s, i + 1, k, h3, hi, hk => by
    have hf := h3 f List.mem_cons_self
    rw [List.zipIdx_cons, List.flatMap_cons, List.getElem?_append_right (by simp; omega)]
    have := flat3 F (s + 1) i k (fun g hg => h3 g (List.mem_cons_of_mem _ hg)) (by simpa using hi) hk
    rw [show 3 * (i + 1) + k - (List.map (fun e => (e, (f, s).2)) (f, s).1).length = 3 * i + k from by simp; omega, this]
    simp; omega
theorem inc_fork {legs : List Int} {forks : List (List Int)} {i k : Nat} (h3 : ∀ f ∈ forks, f.length = 3) (hi : i < forks.length) (hk : k < 3) : (inc legs forks).getD (legs.length + 3 * i + k) (0, 0) = ((forks.getD i []).getD k 0, legs.length + i) := by
  unfold inc
  rw [List.getD_eq_getElem?_getD, List.getElem?_append_right (by simp; omega), show legs.length + 3 * i + k - legs.zipIdx.length = 3 * i + k from by simp; omega, flat3 forks legs.length i k h3 hi hk]; rfl
theorem inc_len {legs : List Int} {forks : List (List Int)} (h3 : ∀ f ∈ forks, f.length = 3) : (inc legs forks).length = legs.length + 3 * forks.length := by
  have : ∀ (F : List (List Int)) (s : Nat), (∀ f ∈ F, f.length = 3) → ((F.zipIdx s).flatMap fun p => p.1.map fun e => (e, p.2)).length = 3 * F.length := by
    intro F
    induction F with
    | nil => intro _ _; rfl
    | cons f F ih => intro s h; rw [List.zipIdx_cons, List.flatMap_cons, List.length_append, ih (s + 1) (fun g hg => h g (List.mem_cons_of_mem _ hg)), List.length_map, h f List.mem_cons_self, List.length_cons]; omega
  unfold inc
  rw [List.length_append, this forks legs.length h3, List.length_zipIdx]
theorem wf_at {I : List (Int × Nat)} (h : ∀ p ∈ I, (Lit.int .i64 p.1).wf = true) {p : Nat} (hp : p < I.length) : (Lit.int .i64 (I.getD p (0, 0)).1).wf = true := by
  refine h _ ?_
  rw [List.getD_eq_getElem?_getD, List.getElem?_eq_getElem hp]; exact List.getElem_mem _
end Go.Proofs.Ytmeggliapebkgaa.Web
end
section
namespace Go.Proofs.Ytmeggliapebkgaa.Web
set_option linter.unusedVariables false
set_option linter.unusedSimpArgs false
def roundC (I : List (Int × Nat)) (out : List Nat) : List Nat := (I.map fun p => p.1).foldl (relax I) out
def partsC (I : List (Int × Nat)) (n : Nat) : Nat → List Nat
  | 0 => List.range n
  | t + 1 => roundC I (partsC I n t)
theorem partsC_rounds (I : List (Int × Nat)) (n : Nat) : ∀ t, Rounds I n t (partsC I n t)
  | 0 => .zero
  | t + 1 => .succ (partsC_rounds I n t) ⟨_, fun e => by
      rw [List.mem_map]
      exact ⟨fun ⟨p, hp, he⟩ => ⟨p.2, by rw [← he]; exact hp⟩, fun ⟨u, hu⟩ => ⟨_, hu, rfl⟩⟩, rfl⟩
theorem partsC_lbl {I : List (Int × Nat)} {n : Nat} (h : Two I n) : partsC I n n = (List.range n).map (lbl I) := rounds_lbl h (partsC_rounds I n n)
def isWebC (legs : List Int) (forks : List (List Int)) : Bool := decide (legs.length + forks.length ≤ 8) && (forks.all fun f => f.length == 3) && twiceB legs forks && (partsC (inc legs forks) (legs.length + forks.length) (legs.length + forks.length)).all fun r => decide (r < legs.length)
theorem isWebC_eq (legs : List Int) (forks : List (List Int)) : isWebC legs forks = isWebB legs forks := by
  unfold isWebC isWebB
  cases ht : twiceB legs forks with
  | false => simp
  | true =>
    rw [partsC_lbl (twice_two ht), List.all_map]
    rfl
theorem web_of {legs : List Int} {forks : List (List Int)} (h : isWebC legs forks = true) : legs.length + forks.length ≤ 8 ∧ (∀ f ∈ forks, f.length = 3) ∧ twiceB legs forks = true ∧ rootedB legs forks = true := by
  rw [isWebC_eq] at h
  unfold isWebB at h
  simp only [Bool.and_eq_true, decide_eq_true_eq] at h
  exact ⟨h.1.1.1, fun f hf => eq_of_beq (List.all_eq_true.1 h.1.1.2 f hf), h.1.2, h.2⟩
end Go.Proofs.Ytmeggliapebkgaa.Web
end
