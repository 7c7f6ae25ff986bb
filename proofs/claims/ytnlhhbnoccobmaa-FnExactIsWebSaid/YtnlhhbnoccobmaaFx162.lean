/- What spec_l06Twice answers, and that the Go text comes to it: for every world in which the arguments read as told. -/
import Derived.Test.YtnlhhbnoccobmaaFgA
namespace Go.Proofs.Ytnlhhbnoccobmaa.F
open Go.RowKit Go.Proofs.YtnlhhbnoccobmaaW.PrintWords Go.Proofs.YtnlhhbnoccobmaaW.PrintLast Go.Proofs.YtnlhhbnoccobmaaW.PrintMore
attribute [local go_sem] max2_int min2_int max_two min_two max_three min_three max_four min_four   -- for this text's walks alone
set_option linter.unusedVariables false
set_option linter.unusedSimpArgs false

/-! ### spec_l06Twice: function 162 -/
mutual
def spec_l06Twice.l0 : Nat → List Int → Int → List Int → List (List Int) → Option (Bool)
 | 0, _, _, _, _ => none
 | k + 1, x3, x4, x1621002000, x1621002001 => if x4 < (x1621002001.length : Int) then (if 0 ≤ x4 then (if ((rd_L1 x1621002001 x4).length : Int) = 3 then (if x3.length + (rd_L1 x1621002001 x4).length < 17592186044416 then (spec_l06Twice.l0 k (x3 ++ (rd_L1 x1621002001 x4)) (wrap64 (x4 + 1)) x1621002000 x1621002001) else (none)) else (some false)) else (none)) else (spec_l06Twice.l1 k x3 0)
def spec_l06Twice.l1 : Nat → List Int → Int → Option (Bool)
 | 0, _, _ => none
 | k + 1, x3, x5 => if x5 < (x3.length : Int) then (spec_l06Twice.l2 k x3 x5 0 0) else (some true)
def spec_l06Twice.l2 : Nat → List Int → Int → Int → Int → Option (Bool)
 | 0, _, _, _, _ => none
 | k + 1, x3, x5, x6, x7 => if x7 < (x3.length : Int) then (if 0 ≤ x7 then (if 0 ≤ x5 then (if x5 < (x3.length : Int) then (if (rd x3 x7) = (rd x3 x5) then (spec_l06Twice.l2 k x3 x5 (wrap64 (x6 + 1)) (wrap64 (x7 + 1))) else (spec_l06Twice.l2 k x3 x5 x6 (wrap64 (x7 + 1)))) else (none)) else (none)) else (none)) else (if x6 = 2 then (if 0 ≤ x5 then (if x5 < (x3.length : Int) then ((spec_l01In.f (rd x3 x5) 0 1000).bind fun t1621013 => (if t1621013 = true then (spec_l06Twice.l1 k x3 (wrap64 (x5 + 1))) else (some false))) else (none)) else (none)) else (some false))
end
def spec_l06Twice.f (k : Nat) (l0_0 : List Int) (l0_1 : List (List Int)) : Option (Bool) := (spec_l01Own.f l0_0).bind fun t1621002 => (spec_l06Twice.l0 k t1621002 0 l0_0 l0_1)
theorem spec_l06Twice.mono_l : ∀ k, (∀ y0 y1 y2 y3, LeO (spec_l06Twice.l0 k y0 y1 y2 y3) (spec_l06Twice.l0 (k + 1) y0 y1 y2 y3)) ∧ (∀ y0 y1, LeO (spec_l06Twice.l1 k y0 y1) (spec_l06Twice.l1 (k + 1) y0 y1)) ∧ (∀ y0 y1 y2 y3, LeO (spec_l06Twice.l2 k y0 y1 y2 y3) (spec_l06Twice.l2 (k + 1) y0 y1 y2 y3))
 | 0 => ⟨fun _ _ _ _ r h => by simp [spec_l06Twice.l0] at h, fun _ _ r h => by simp [spec_l06Twice.l1] at h, fun _ _ _ _ r h => by simp [spec_l06Twice.l2] at h⟩
 | k + 1 => by
  obtain ⟨ih0, ih1, ih2⟩ := spec_l06Twice.mono_l k
  refine ⟨?_, ?_, ?_⟩
  ·intro y0 y1 y2 y3
   unfold spec_l06Twice.l0
   repeat' first
   | (with_reducible exact ih0 _ _ _ _)
   | (with_reducible exact ih1 _ _)
   | (with_reducible exact ih2 _ _ _ _)
   | (with_reducible exact LeO.refl _)
   | (with_reducible exact LeO.none _)
   | (with_reducible refine LeO.ite ?_ ?_)
   | (with_reducible refine LeO.bind ?_ (fun _ => ?_))
   | exact ih0 _ _ _ _
   | exact ih1 _ _
   | exact ih2 _ _ _ _
   | exact LeO.none _
   | refine LeO.ite ?_ ?_
   | refine LeO.bind ?_ (fun _ => ?_)
  ·intro y0 y1
   unfold spec_l06Twice.l1
   repeat' first
   | (with_reducible exact ih0 _ _ _ _)
   | (with_reducible exact ih1 _ _)
   | (with_reducible exact ih2 _ _ _ _)
   | (with_reducible exact LeO.refl _)
   | (with_reducible exact LeO.none _)
   | (with_reducible refine LeO.ite ?_ ?_)
   | (with_reducible refine LeO.bind ?_ (fun _ => ?_))
   | exact ih0 _ _ _ _
   | exact ih1 _ _
   | exact ih2 _ _ _ _
   | exact LeO.none _
   | refine LeO.ite ?_ ?_
   | refine LeO.bind ?_ (fun _ => ?_)
  ·intro y0 y1 y2 y3
   unfold spec_l06Twice.l2
   repeat' first
   | (with_reducible exact ih0 _ _ _ _)
   | (with_reducible exact ih1 _ _)
   | (with_reducible exact ih2 _ _ _ _)
   | (with_reducible exact LeO.refl _)
   | (with_reducible exact LeO.none _)
   | (with_reducible refine LeO.ite ?_ ?_)
   | (with_reducible refine LeO.bind ?_ (fun _ => ?_))
   | exact ih0 _ _ _ _
   | exact ih1 _ _
   | exact ih2 _ _ _ _
   | exact LeO.none _
   | refine LeO.ite ?_ ?_
   | refine LeO.bind ?_ (fun _ => ?_)
theorem spec_l06Twice.mono : ∀ a0 a1 k, LeO (spec_l06Twice.f k a0 a1) (spec_l06Twice.f (k + 1) a0 a1) := by
 intro a0 a1 k
 obtain ⟨ih0, ih1, ih2⟩ := spec_l06Twice.mono_l k
 unfold spec_l06Twice.f
 repeat' first
   | (with_reducible exact ih0 _ _ _ _)
   | (with_reducible exact ih1 _ _)
   | (with_reducible exact ih2 _ _ _ _)
   | (with_reducible exact LeO.refl _)
   | (with_reducible exact LeO.none _)
   | (with_reducible refine LeO.ite ?_ ?_)
   | (with_reducible refine LeO.bind ?_ (fun _ => ?_))
   | exact ih0 _ _ _ _
   | exact ih1 _ _
   | exact ih2 _ _ _ _
   | exact LeO.none _
   | refine LeO.ite ?_ ?_
   | refine LeO.bind ?_ (fun _ => ?_)
set_option maxHeartbeats 8000000 in
set_option maxRecDepth 100000 in
theorem spec_l06Twice.calls (k : Nat) (A0_0 : Option Addr) (c0_0 : Nat) (l0_0 : List Int) (A0_1 : Option Addr) (c0_1 : Nat) (l0_1 : List (List Int)) (r : Bool) (w : World) (hr0_0 : Kd.C (Kd.int .i64) w A0_0 l0_0.length l0_0) (hc0_0 : l0_0.length ≤ c0_0) (hr0_1 : Kd.C (Kd.slice 2 (Kd.int .i64)) w A0_1 l0_1.length l0_1) (hc0_1 : l0_1.length ≤ c0_1) (h : spec_l06Twice.f k l0_0 l0_1 = some r) :
  Calls Try.prog 162 #[.agg #[.slice A0_0 l0_0.length c0_0, .slice A0_1 l0_1.length c0_1]] w fun e w' => e = .returned (.bool r) ∧ Below w.heap.size w w' := by
 have hu28 := Try.underlying28
 have HR0_0 := Aside0.mk hr0_0
 have HC0_0 := Aside0.mk hc0_0
 clear hr0_0 hc0_0
 have HR0_1 := Aside0.mk hr0_1
 have HC0_1 := Aside0.mk hc0_1
 clear hr0_1 hc0_1
 have HB := Aside0.mk (Below.refl w.heap.size w)
 have H : ((spec_l01Own.f l0_0).bind fun t1621002 => (spec_l06Twice.l0 k t1621002 0 l0_0 l0_1)) = some r := h
 clear h
 replace H := Option.bind_eq_some_iff.mp H
 obtain ⟨t1621002, A20, H⟩ := H
 replace H : (spec_l06Twice.l0 k t1621002 0 l0_0 l0_1) = some r := H
 have A2 := Aside0.mk A20
 clear A20
 have H' := Aside0.mk H
 clear H
 go_enter Try.func162, Try.ntmps162
 go_wp2_with (first | ((with_reducible refine gate_dst (N := 1) rfl ?_); refine box_event ?hg (N := 1) ?hd (cs := #[.slice A0_0 l0_0.length c0_0, .slice A0_1 l0_1.length c0_1]) (t := 28) ?hr ?_; (case hd => rfl); (case hg => rfl); (case hr => first | (go_simp; done) | (go_simp; rfl)); intro gb1621001 hg w3 hbox hb; have n0_ := Aside0.mk (below_step (by repeat (first | (with_reducible first | exact HB.out | apply below_alloc | apply pw_below_drewN | apply below_drew1) | exact HB.out)) hb); have n1_ := Aside0.mk (hbox); have n2_ := Aside0.mk ((by rw [hg]; exact (below_size (by repeat (first | (with_reducible first | exact HB.out | apply below_alloc | apply pw_below_drewN | apply below_drew1) | exact HB.out))) : w.heap.size ≤ gb1621001)); have n3_ := Aside0.mk ((by rw [hg]; exact (below_size (by repeat (first | (with_reducible first | exact HB.out | apply below_alloc | apply pw_below_drewN | apply below_drew1) | exact HB.out))) : w.heap.size ≤ gb1621001)); clear HB; have HB := n0_; have BK1621001 := n1_; have GW1621001 := n2_; have GE1621001 := n3_; clear n0_ n1_ n2_ n3_; clear hb hbox hg; have hcz4_0 : w3.cell? ⟨gb1621001, 0, none⟩ = some (.slice A0_0 l0_0.length c0_0) := (blk_cell BK1621001.out 0).trans rfl; have hcz4_1 : w3.cell? ⟨gb1621001, 1, none⟩ = some (.slice A0_1 l0_1.length c0_1) := (blk_cell BK1621001.out 1).trans rfl; have hfz4_0 := blk_frozen BK1621001.out 0; have hfz4_1 := blk_frozen BK1621001.out 1) | (go_at_call 137; (with_reducible refine (spec_l01Own.calls _ _ l0_0 t1621002 _ ?side1 ?side2 A2.out).mono ?_); (case side1 => repeat (first | exact (Kd.C_below HR0_0.out HB.out) | (with_reducible refine Kd.C_alloc ?_ _) | (with_reducible refine Kd.C_drewN ?_ _) | (with_reducible refine Kd.C_drew ?_))); (case side2 => exact HC0_0.out); rintro e w5 ⟨v1621003, rfl, ho0, hb⟩; have n0_ := Aside0.mk (Kd.R_lower ho0 (below_size (by repeat (first | (with_reducible first | exact HB.out | apply below_alloc | apply pw_below_drewN | apply below_drew1 | refine below_set ?_ GE1621001.out) | exact HB.out)))); have n1_ := Aside0.mk (blk_below (g := gb1621001) (o := .cells #[.slice A0_0 l0_0.length c0_0, .slice A0_1 l0_1.length c0_1] 28 (0, 0)) (by (with_reducible repeat (first | refine blk_drewN ?_ _ | refine blk_drew ?_ | refine blk_alloc ?_ _)); exact BK1621001.out) hb); have n2_ := Aside0.mk (below_step (by repeat (first | (with_reducible first | exact HB.out | apply below_alloc | apply pw_below_drewN | apply below_drew1 | refine below_set ?_ GE1621001.out) | exact HB.out)) hb); clear BK1621001; clear HB; have HO1621004 := n0_; have BK1621001 := n1_; have HB := n2_; clear n0_ n1_ n2_; (try clear hb); (try clear hb2); (try clear hk); (try clear hi); (try clear ho0)))
 repeat (go_quiet (first | ((with_reducible refine gate_dst (N := 1) rfl ?_); refine box_event ?hg (N := 1) ?hd (cs := #[.slice A0_0 l0_0.length c0_0, .slice A0_1 l0_1.length c0_1]) (t := 28) ?hr ?_; (case hd => rfl); (case hg => rfl); (case hr => first | (go_simp; done) | (go_simp; rfl)); intro gb1621001 hg w3 hbox hb; have n0_ := Aside0.mk (below_step (by repeat (first | (with_reducible first | exact HB.out | apply below_alloc | apply pw_below_drewN | apply below_drew1) | exact HB.out)) hb); have n1_ := Aside0.mk (hbox); have n2_ := Aside0.mk ((by rw [hg]; exact (below_size (by repeat (first | (with_reducible first | exact HB.out | apply below_alloc | apply pw_below_drewN | apply below_drew1) | exact HB.out))) : w.heap.size ≤ gb1621001)); have n3_ := Aside0.mk ((by rw [hg]; exact (below_size (by repeat (first | (with_reducible first | exact HB.out | apply below_alloc | apply pw_below_drewN | apply below_drew1) | exact HB.out))) : w.heap.size ≤ gb1621001)); clear HB; have HB := n0_; have BK1621001 := n1_; have GW1621001 := n2_; have GE1621001 := n3_; clear n0_ n1_ n2_ n3_; clear hb hbox hg; have hcz4_0 : w3.cell? ⟨gb1621001, 0, none⟩ = some (.slice A0_0 l0_0.length c0_0) := (blk_cell BK1621001.out 0).trans rfl; have hcz4_1 : w3.cell? ⟨gb1621001, 1, none⟩ = some (.slice A0_1 l0_1.length c0_1) := (blk_cell BK1621001.out 1).trans rfl; have hfz4_0 := blk_frozen BK1621001.out 0; have hfz4_1 := blk_frozen BK1621001.out 1) | (go_at_call 137; (with_reducible refine (spec_l01Own.calls _ _ l0_0 t1621002 _ ?side1 ?side2 A2.out).mono ?_); (case side1 => repeat (first | exact (Kd.C_below HR0_0.out HB.out) | (with_reducible refine Kd.C_alloc ?_ _) | (with_reducible refine Kd.C_drewN ?_ _) | (with_reducible refine Kd.C_drew ?_))); (case side2 => exact HC0_0.out); rintro e w5 ⟨v1621003, rfl, ho0, hb⟩; have n0_ := Aside0.mk (Kd.R_lower ho0 (below_size (by repeat (first | (with_reducible first | exact HB.out | apply below_alloc | apply pw_below_drewN | apply below_drew1 | refine below_set ?_ GE1621001.out) | exact HB.out)))); have n1_ := Aside0.mk (blk_below (g := gb1621001) (o := .cells #[.slice A0_0 l0_0.length c0_0, .slice A0_1 l0_1.length c0_1] 28 (0, 0)) (by (with_reducible repeat (first | refine blk_drewN ?_ _ | refine blk_drew ?_ | refine blk_alloc ?_ _)); exact BK1621001.out) hb); have n2_ := Aside0.mk (below_step (by repeat (first | (with_reducible first | exact HB.out | apply below_alloc | apply pw_below_drewN | apply below_drew1 | refine below_set ?_ GE1621001.out) | exact HB.out)) hb); clear BK1621001; clear HB; have HO1621004 := n0_; have BK1621001 := n1_; have HB := n2_; clear n0_ n1_ n2_; (try clear hb); (try clear hb2); (try clear hk); (try clear hi); (try clear ho0))); try go_wp2_with (first | ((with_reducible refine gate_dst (N := 1) rfl ?_); refine box_event ?hg (N := 1) ?hd (cs := #[.slice A0_0 l0_0.length c0_0, .slice A0_1 l0_1.length c0_1]) (t := 28) ?hr ?_; (case hd => rfl); (case hg => rfl); (case hr => first | (go_simp; done) | (go_simp; rfl)); intro gb1621001 hg w3 hbox hb; have n0_ := Aside0.mk (below_step (by repeat (first | (with_reducible first | exact HB.out | apply below_alloc | apply pw_below_drewN | apply below_drew1) | exact HB.out)) hb); have n1_ := Aside0.mk (hbox); have n2_ := Aside0.mk ((by rw [hg]; exact (below_size (by repeat (first | (with_reducible first | exact HB.out | apply below_alloc | apply pw_below_drewN | apply below_drew1) | exact HB.out))) : w.heap.size ≤ gb1621001)); have n3_ := Aside0.mk ((by rw [hg]; exact (below_size (by repeat (first | (with_reducible first | exact HB.out | apply below_alloc | apply pw_below_drewN | apply below_drew1) | exact HB.out))) : w.heap.size ≤ gb1621001)); clear HB; have HB := n0_; have BK1621001 := n1_; have GW1621001 := n2_; have GE1621001 := n3_; clear n0_ n1_ n2_ n3_; clear hb hbox hg; have hcz4_0 : w3.cell? ⟨gb1621001, 0, none⟩ = some (.slice A0_0 l0_0.length c0_0) := (blk_cell BK1621001.out 0).trans rfl; have hcz4_1 : w3.cell? ⟨gb1621001, 1, none⟩ = some (.slice A0_1 l0_1.length c0_1) := (blk_cell BK1621001.out 1).trans rfl; have hfz4_0 := blk_frozen BK1621001.out 0; have hfz4_1 := blk_frozen BK1621001.out 1) | (go_at_call 137; (with_reducible refine (spec_l01Own.calls _ _ l0_0 t1621002 _ ?side1 ?side2 A2.out).mono ?_); (case side1 => repeat (first | exact (Kd.C_below HR0_0.out HB.out) | (with_reducible refine Kd.C_alloc ?_ _) | (with_reducible refine Kd.C_drewN ?_ _) | (with_reducible refine Kd.C_drew ?_))); (case side2 => exact HC0_0.out); rintro e w5 ⟨v1621003, rfl, ho0, hb⟩; have n0_ := Aside0.mk (Kd.R_lower ho0 (below_size (by repeat (first | (with_reducible first | exact HB.out | apply below_alloc | apply pw_below_drewN | apply below_drew1 | refine below_set ?_ GE1621001.out) | exact HB.out)))); have n1_ := Aside0.mk (blk_below (g := gb1621001) (o := .cells #[.slice A0_0 l0_0.length c0_0, .slice A0_1 l0_1.length c0_1] 28 (0, 0)) (by (with_reducible repeat (first | refine blk_drewN ?_ _ | refine blk_drew ?_ | refine blk_alloc ?_ _)); exact BK1621001.out) hb); have n2_ := Aside0.mk (below_step (by repeat (first | (with_reducible first | exact HB.out | apply below_alloc | apply pw_below_drewN | apply below_drew1 | refine below_set ?_ GE1621001.out) | exact HB.out)) hb); clear BK1621001; clear HB; have HO1621004 := n0_; have BK1621001 := n1_; have HB := n2_; clear n0_ n1_ n2_; (try clear hb); (try clear hb2); (try clear hk); (try clear hi); (try clear ho0))))
 go_loopg [3, 4] k (fun kq v3 v4 w' => ∃ (x3_1 : List Int) (x4_1 : Int), v4 = .int .i64 x4_1 ∧ Aside0 (spec_l06Twice.l0 kq x3_1 x4_1 l0_0 l0_1 = some r) ∧ Aside0 (kq ≤ k) ∧ Aside0 (Kd.R (Kd.int .i64) 2 w' w.heap.size (fun _ => True) v3 x3_1) ∧ Aside0 (w'.heap[gb1621001]? = some (.cells #[(.slice A0_0 l0_0.length c0_0), (.slice A0_1 l0_1.length c0_1)] 28 (0, 0))) ∧ Aside0 (Below w.heap.size w w'))
 case atStart => exact ⟨(t1621002), (0), (by first | rfl | (simp; done) | (simp [*]; done)), H', ⟨Nat.le_refl _⟩, ⟨by (with_reducible repeat (first | apply Kd.R_alloc | apply Kd.R_drewN | apply Kd.R_drew)); exact HO1621004.out⟩, ⟨by (with_reducible repeat (first | refine blk_drewN ?_ _ | refine blk_drew ?_ | refine blk_alloc ?_ _)); exact BK1621001.out⟩, ⟨by repeat (first | (with_reducible first | exact HB.out | apply below_alloc | apply pw_below_drewN | apply below_drew1 | refine below_set ?_ GE1621001.out) | exact HB.out)⟩⟩
 case round =>
  clear H'
  try clear c1
  try clear p2
  try clear hcz4_0
  try clear hcz4_1
  try clear hfz4_0
  try clear hfz4_1
  obtain ⟨x3_1, x4_1, rfl, HA, HK1, HO_3, BK1621001, HB⟩ := hrel
  cases gk with
  | zero => exact absurd HA.out (by simp [spec_l06Twice.l0])
  | succ k1 =>
   have H := HA.out
   clear HA
   simp only [spec_l06Twice.l0] at H
   by_cases c6 : x4_1 < (l0_1.length : Int)
   ·rw [if_pos c6] at H
    have c6b0 : decide (x4_1 < (l0_1.length : Int)) = true := decide_eq_true c6
    clear c6
    by_cases c7 : 0 ≤ x4_1
    ·rw [if_pos c7] at H
     have c7b0 : decide (0 ≤ x4_1) = true := decide_eq_true c7
     clear c7
     by_cases c8 : ((rd_L1 l0_1 x4_1).length : Int) = 3
     ·rw [if_pos c8] at H
      have c8b0 : (((rd_L1 l0_1 x4_1).length : Int) == 3) = true := beq_iff_eq.mpr c8
      have c8b1 : (((rd_L1 l0_1 x4_1).length : Int) != 3) = false := bne_eq_false_iff_eq.mpr c8
      clear c8
      by_cases c9 : x3_1.length + (rd_L1 l0_1 x4_1).length < 17592186044416
      ·rw [if_pos c9] at H
       have LMc9 := Aside0.mk c9
       clear c9
       obtain ⟨y1621007, hy1621007⟩ : ∃ y_ : List Int, y_ = (x3_1 ++ (rd_L1 l0_1 x4_1)) := ⟨_, rfl⟩
       replace H : (spec_l06Twice.l0 k1 y1621007 (wrap64 (x4_1 + 1)) l0_0 l0_1) = some r := by first | (rw [hy1621007]; with_reducible exact H) | (have H2_ := (Option.bind_some _ _).symm.trans H; rw [hy1621007]; with_reducible exact H2_) | (have H2_ := (Option.bind_some _ _).symm.trans H; with_reducible exact H2_) | with_reducible exact H | (rw [hy1621007]; exact H) | exact H
       have Ny1621007 := Aside0.mk hy1621007
       clear hy1621007
       have H' := Aside0.mk H
       clear H
       have hcz10_0 : wr.cell? ⟨gb1621001, 0, none⟩ = some (.slice A0_0 l0_0.length c0_0) := (blk_cell BK1621001.out 0).trans rfl
       have hcz10_1 : wr.cell? ⟨gb1621001, 1, none⟩ = some (.slice A0_1 l0_1.length c0_1) := (blk_cell BK1621001.out 1).trans rfl
       have hfz10_0 := blk_frozen BK1621001.out 0
       have hfz10_1 := blk_frozen BK1621001.out 1
       have p1621005 : 0 ≤ (x4_1 : Int) := of_decide_eq_true (by first | (with_reducible assumption) | assumption)
       have q1621005 : x4_1 < (l0_1.length : Int) := of_decide_eq_true (by first | (with_reducible assumption) | assumption)
       obtain ⟨ad1621005, A1621005_0, c1621005_0, e1621005, hx1621005_0, hl1621005_0, hi1621005_0⟩ := at_L1 HR0_1.out x4_1 p1621005 q1621005
       cases e1621005
       replace hx1621005_0 := (HB.out.cell (World.block_lt_of_cell? w _ hx1621005_0)).trans hx1621005_0
       have HR1621005_0 := Aside0.mk hi1621005_0
       have HC1621005_0 := Aside0.mk hl1621005_0
       clear hi1621005_0 hl1621005_0
       replace p1621005 := eq_true p1621005
       replace q1621005 := eq_true q1621005
       have p1621006 : 0 ≤ (x4_1 : Int) := of_decide_eq_true (by first | (with_reducible assumption) | assumption)
       have q1621006 : x4_1 < (l0_1.length : Int) := of_decide_eq_true (by first | (with_reducible assumption) | assumption)
       obtain ⟨ad1621006, A1621006_0, c1621006_0, e1621006, hx1621006_0, hl1621006_0, hi1621006_0⟩ := at_L1 HR0_1.out x4_1 p1621006 q1621006
       obtain rfl : ad1621005 = ad1621006 := (by injection e1621006)
       replace hx1621006_0 := (HB.out.cell (World.block_lt_of_cell? w _ hx1621006_0)).trans hx1621006_0
       have HR1621006_0 := Aside0.mk hi1621006_0
       have HC1621006_0 := Aside0.mk hl1621006_0
       clear hi1621006_0 hl1621006_0
       replace p1621006 := eq_true p1621006
       replace q1621006 := eq_true q1621006
       have ea_ := Option.some.inj (hx1621005_0.symm.trans hx1621006_0)
       injection ea_ with ea_ en_ ec_
       subst ea_
       subst ec_
       clear en_
       go_wp2_with (first | ((with_reducible refine gate_builtin (b := .append) (xs := #[.tmp 25, .tmp 30]) rfl ?_); at_builtin; refine Kd.R_append_rows (Kd.int .i64) (w0 := w) w.heap.size rfl (.tmp 25) (.tmp 30) 22 2 (.int .i64 0) 8 rfl Try.underlying22 info2 rfl (by decide) (by omega) u3 x3_1 (rd_L1 l0_1 x4_1) _ _ _ (fun _ => True) (fun _ => False) rfl rfl ?aO ?aR (fun _ _ h => h) (fun _ h => h.elim) ?aF ?aB ?aS ?aL ?_; (case aR => repeat (first | exact (Kd.C_below HR1621006_0.out HB.out) | (with_reducible refine Kd.C_alloc ?_ _) | (with_reducible refine Kd.C_drewN ?_ _) | (with_reducible refine Kd.C_drew ?_))); (case aB => exact (by repeat (first | (with_reducible first | exact HB.out | apply below_alloc | apply pw_below_drewN | apply below_drew1 | refine below_set ?_ GE1621001.out) | exact HB.out))); (case aF => exact (fun _ _ => trivial)); (case aO => exact (by (with_reducible repeat (first | apply Kd.R_alloc | apply Kd.R_drewN | apply Kd.R_drew)); exact HO_3.out)); (case aS => exact (below_size (by repeat (first | (with_reducible first | exact HB.out | apply below_alloc | apply pw_below_drewN | apply below_drew1 | refine below_set ?_ GE1621001.out) | exact HB.out)))); (case aL => have := LMc9.out; omega); intro v1621008 w11 ho hb hg hat; rw [← Ny1621007.out] at ho; have n0_ := Aside0.mk (blk_grown (g := gb1621001) (o := .cells #[.slice A0_0 l0_0.length c0_0, .slice (some ad1621005) l0_1.length c0_1] 28 (0, 0)) (by (with_reducible repeat (first | refine blk_drewN ?_ _ | refine blk_drew ?_ | refine blk_alloc ?_ _)); exact BK1621001.out) hg (Kd.R_ne HO_3.out BK1621001.out (by decide))); have n1_ := Aside0.mk (hb); have n2_ := Aside0.mk (ho); clear BK1621001; clear HB; clear HO_3; have BK1621001 := n0_; have HB := n1_; have HO1621009 := n2_; clear n0_ n1_ n2_; clear ho hb hg hat))
       repeat (go_quiet (first | ((with_reducible refine gate_builtin (b := .append) (xs := #[.tmp 25, .tmp 30]) rfl ?_); at_builtin; refine Kd.R_append_rows (Kd.int .i64) (w0 := w) w.heap.size rfl (.tmp 25) (.tmp 30) 22 2 (.int .i64 0) 8 rfl Try.underlying22 info2 rfl (by decide) (by omega) u3 x3_1 (rd_L1 l0_1 x4_1) _ _ _ (fun _ => True) (fun _ => False) rfl rfl ?aO ?aR (fun _ _ h => h) (fun _ h => h.elim) ?aF ?aB ?aS ?aL ?_; (case aR => repeat (first | exact (Kd.C_below HR1621006_0.out HB.out) | (with_reducible refine Kd.C_alloc ?_ _) | (with_reducible refine Kd.C_drewN ?_ _) | (with_reducible refine Kd.C_drew ?_))); (case aB => exact (by repeat (first | (with_reducible first | exact HB.out | apply below_alloc | apply pw_below_drewN | apply below_drew1 | refine below_set ?_ GE1621001.out) | exact HB.out))); (case aF => exact (fun _ _ => trivial)); (case aO => exact (by (with_reducible repeat (first | apply Kd.R_alloc | apply Kd.R_drewN | apply Kd.R_drew)); exact HO_3.out)); (case aS => exact (below_size (by repeat (first | (with_reducible first | exact HB.out | apply below_alloc | apply pw_below_drewN | apply below_drew1 | refine below_set ?_ GE1621001.out) | exact HB.out)))); (case aL => have := LMc9.out; omega); intro v1621008 w11 ho hb hg hat; rw [← Ny1621007.out] at ho; have n0_ := Aside0.mk (blk_grown (g := gb1621001) (o := .cells #[.slice A0_0 l0_0.length c0_0, .slice (some ad1621005) l0_1.length c0_1] 28 (0, 0)) (by (with_reducible repeat (first | refine blk_drewN ?_ _ | refine blk_drew ?_ | refine blk_alloc ?_ _)); exact BK1621001.out) hg (Kd.R_ne HO_3.out BK1621001.out (by decide))); have n1_ := Aside0.mk (hb); have n2_ := Aside0.mk (ho); clear BK1621001; clear HB; clear HO_3; have BK1621001 := n0_; have HB := n1_; have HO1621009 := n2_; clear n0_ n1_ n2_; clear ho hb hg hat)); try go_wp2_with (first | ((with_reducible refine gate_builtin (b := .append) (xs := #[.tmp 25, .tmp 30]) rfl ?_); at_builtin; refine Kd.R_append_rows (Kd.int .i64) (w0 := w) w.heap.size rfl (.tmp 25) (.tmp 30) 22 2 (.int .i64 0) 8 rfl Try.underlying22 info2 rfl (by decide) (by omega) u3 x3_1 (rd_L1 l0_1 x4_1) _ _ _ (fun _ => True) (fun _ => False) rfl rfl ?aO ?aR (fun _ _ h => h) (fun _ h => h.elim) ?aF ?aB ?aS ?aL ?_; (case aR => repeat (first | exact (Kd.C_below HR1621006_0.out HB.out) | (with_reducible refine Kd.C_alloc ?_ _) | (with_reducible refine Kd.C_drewN ?_ _) | (with_reducible refine Kd.C_drew ?_))); (case aB => exact (by repeat (first | (with_reducible first | exact HB.out | apply below_alloc | apply pw_below_drewN | apply below_drew1 | refine below_set ?_ GE1621001.out) | exact HB.out))); (case aF => exact (fun _ _ => trivial)); (case aO => exact (by (with_reducible repeat (first | apply Kd.R_alloc | apply Kd.R_drewN | apply Kd.R_drew)); exact HO_3.out)); (case aS => exact (below_size (by repeat (first | (with_reducible first | exact HB.out | apply below_alloc | apply pw_below_drewN | apply below_drew1 | refine below_set ?_ GE1621001.out) | exact HB.out)))); (case aL => have := LMc9.out; omega); intro v1621008 w11 ho hb hg hat; rw [← Ny1621007.out] at ho; have n0_ := Aside0.mk (blk_grown (g := gb1621001) (o := .cells #[.slice A0_0 l0_0.length c0_0, .slice (some ad1621005) l0_1.length c0_1] 28 (0, 0)) (by (with_reducible repeat (first | refine blk_drewN ?_ _ | refine blk_drew ?_ | refine blk_alloc ?_ _)); exact BK1621001.out) hg (Kd.R_ne HO_3.out BK1621001.out (by decide))); have n1_ := Aside0.mk (hb); have n2_ := Aside0.mk (ho); clear BK1621001; clear HB; clear HO_3; have BK1621001 := n0_; have HB := n1_; have HO1621009 := n2_; clear n0_ n1_ n2_; clear ho hb hg hat)))
       go_roundg k1
       case measure => have := HK1.out; omega
       case rel => exact ⟨(y1621007), (wrap64 (x4_1 + 1)), (by first | rfl | (simp; done) | (simp [*]; done)), H', ⟨by have := HK1.out; omega⟩, ⟨by (with_reducible repeat (first | apply Kd.R_alloc | apply Kd.R_drewN | apply Kd.R_drew)); exact HO1621009.out⟩, ⟨by (with_reducible repeat (first | refine blk_drewN ?_ _ | refine blk_drew ?_ | refine blk_alloc ?_ _)); exact BK1621001.out⟩, ⟨by repeat (first | (with_reducible first | exact HB.out | apply below_alloc | apply pw_below_drewN | apply below_drew1 | refine below_set ?_ GE1621001.out) | exact HB.out)⟩⟩
      ·rw [if_neg c9] at H
       exact absurd H (by simp)
     ·rw [if_neg c8] at H
      have c8b0 : (((rd_L1 l0_1 x4_1).length : Int) == 3) = false := beq_eq_false_iff_ne.mpr c8
      have c8b1 : (((rd_L1 l0_1 x4_1).length : Int) != 3) = true := bne_iff_ne.mpr c8
      obtain rfl := Option.some.inj H
      have hcz12_0 : wr.cell? ⟨gb1621001, 0, none⟩ = some (.slice A0_0 l0_0.length c0_0) := (blk_cell BK1621001.out 0).trans rfl
      have hcz12_1 : wr.cell? ⟨gb1621001, 1, none⟩ = some (.slice A0_1 l0_1.length c0_1) := (blk_cell BK1621001.out 1).trans rfl
      have hfz12_0 := blk_frozen BK1621001.out 0
      have hfz12_1 := blk_frozen BK1621001.out 1
      have p1621005 : 0 ≤ (x4_1 : Int) := of_decide_eq_true (by first | (with_reducible assumption) | assumption)
      have q1621005 : x4_1 < (l0_1.length : Int) := of_decide_eq_true (by first | (with_reducible assumption) | assumption)
      obtain ⟨ad1621005, A1621005_0, c1621005_0, e1621005, hx1621005_0, hl1621005_0, hi1621005_0⟩ := at_L1 HR0_1.out x4_1 p1621005 q1621005
      cases e1621005
      replace hx1621005_0 := (HB.out.cell (World.block_lt_of_cell? w _ hx1621005_0)).trans hx1621005_0
      have HR1621005_0 := Aside0.mk hi1621005_0
      have HC1621005_0 := Aside0.mk hl1621005_0
      clear hi1621005_0 hl1621005_0
      replace p1621005 := eq_true p1621005
      replace q1621005 := eq_true q1621005
      go_wp2
      repeat (go_quiet (fail); try go_wp2)
      go_ret
      exact ⟨by first | rfl | (simp [errW_none, errW_some] <;> rfl) | (simp [*, errW_none, errW_some] <;> rfl), by repeat (first | (with_reducible first | exact HB.out | apply below_alloc | apply pw_below_drewN | apply below_drew1 | refine below_set ?_ GE1621001.out) | exact HB.out)⟩
    ·rw [if_neg c7] at H
     exact absurd H (by simp)
   ·rw [if_neg c6] at H
    have c6b0 : decide (x4_1 < (l0_1.length : Int)) = false := decide_eq_false c6
    clear c6
    have H' := Aside0.mk H
    clear H
    have hcz13_0 : wr.cell? ⟨gb1621001, 0, none⟩ = some (.slice A0_0 l0_0.length c0_0) := (blk_cell BK1621001.out 0).trans rfl
    have hcz13_1 : wr.cell? ⟨gb1621001, 1, none⟩ = some (.slice A0_1 l0_1.length c0_1) := (blk_cell BK1621001.out 1).trans rfl
    have hfz13_0 := blk_frozen BK1621001.out 0
    have hfz13_1 := blk_frozen BK1621001.out 1
    go_wp2
    repeat (go_quiet (fail); try go_wp2)
    go_loopg [5] k1 (fun kq v5 w' => ∃ (x5_2 : Int), v5 = .int .i64 x5_2 ∧ Aside0 (spec_l06Twice.l1 kq x3_1 x5_2 = some r) ∧ Aside0 (kq ≤ k1) ∧ Aside0 (Kd.R (Kd.int .i64) 2 w' w.heap.size (fun _ => True) u3 x3_1) ∧ Aside0 (w'.heap[gb1621001]? = some (.cells #[(.slice A0_0 l0_0.length c0_0), (.slice A0_1 l0_1.length c0_1)] 28 (0, 0))) ∧ Aside0 (Below w.heap.size w w'))
    case atStart => exact ⟨(0), (by first | rfl | (simp; done) | (simp [*]; done)), H', ⟨Nat.le_refl _⟩, ⟨by (with_reducible repeat (first | apply Kd.R_alloc | apply Kd.R_drewN | apply Kd.R_drew)); exact HO_3.out⟩, ⟨by (with_reducible repeat (first | refine blk_drewN ?_ _ | refine blk_drew ?_ | refine blk_alloc ?_ _)); exact BK1621001.out⟩, ⟨by repeat (first | (with_reducible first | exact HB.out | apply below_alloc | apply pw_below_drewN | apply below_drew1 | refine below_set ?_ GE1621001.out) | exact HB.out)⟩⟩
    case round =>
     clear H'
     try clear c1
     try clear p1
     try clear q1
     try clear hx1
     try clear p2
     try clear c6
     try clear c6b0
     try clear p6
     try clear c7
     try clear c7b0
     try clear c8
     try clear c8b0
     try clear c8b1
     try clear c9
     try clear hcz10_0
     try clear hcz10_1
     try clear hcz12_0
     try clear hcz12_1
     try clear hcz13_0
     try clear hcz13_1
     try clear hcz4_0
     try clear hcz4_1
     try clear hfz10_0
     try clear hfz10_1
     try clear hfz12_0
     try clear hfz12_1
     try clear hfz13_0
     try clear hfz13_1
     try clear hfz4_0
     try clear hfz4_1
     try clear hx1621005_0
     try clear hx1621006_0
     try clear p1621005
     try clear p1621006
     try clear p2
     try clear q1621005
     try clear q1621006
     obtain ⟨x5_2, rfl, HA, HK2, HO_3, BK1621001, HB⟩ := hrel
     cases gk with
     | zero => exact absurd HA.out (by simp [spec_l06Twice.l1])
     | succ k2 =>
      have H := HA.out
      clear HA
      simp only [spec_l06Twice.l1] at H
      by_cases c14 : x5_2 < (x3_1.length : Int)
      ·rw [if_pos c14] at H
       have c14b0 : decide (x5_2 < (x3_1.length : Int)) = true := decide_eq_true c14
       clear c14
       have H' := Aside0.mk H
       clear H
       obtain ⟨Ao15, co15, eo15⟩ := Kd.R_slice HO_3.out
       subst eo15
       go_wp2
       repeat (go_quiet (fail); try go_wp2)
       go_loopg [6, 7] k2 (fun kq v6 v7 w' => ∃ (x6_3 : Int) (x7_3 : Int), v6 = .int .i64 x6_3 ∧ v7 = .int .i64 x7_3 ∧ Aside0 (spec_l06Twice.l2 kq x3_1 x5_2 x6_3 x7_3 = some r) ∧ Aside0 (kq ≤ k2) ∧ Aside0 (Kd.R (Kd.int .i64) 2 w' w.heap.size (fun _ => True) (.slice Ao15 x3_1.length co15) x3_1) ∧ Aside0 (w'.heap[gb1621001]? = some (.cells #[(.slice A0_0 l0_0.length c0_0), (.slice A0_1 l0_1.length c0_1)] 28 (0, 0))) ∧ Aside0 (Below w.heap.size w w'))
       case atStart => exact ⟨(0), (0), (by first | rfl | (simp; done) | (simp [*]; done)), (by first | rfl | (simp; done) | (simp [*]; done)), H', ⟨Nat.le_refl _⟩, ⟨by (with_reducible repeat (first | apply Kd.R_alloc | apply Kd.R_drewN | apply Kd.R_drew)); exact HO_3.out⟩, ⟨by (with_reducible repeat (first | refine blk_drewN ?_ _ | refine blk_drew ?_ | refine blk_alloc ?_ _)); exact BK1621001.out⟩, ⟨by repeat (first | (with_reducible first | exact HB.out | apply below_alloc | apply pw_below_drewN | apply below_drew1 | refine below_set ?_ GE1621001.out) | exact HB.out)⟩⟩
       case round =>
        clear H'
        try clear c1
        try clear p1
        try clear q1
        try clear hx1
        try clear p2
        try clear c6
        try clear c6b0
        try clear p6
        try clear c7
        try clear c7b0
        try clear c8
        try clear c8b0
        try clear c8b1
        try clear c9
        try clear c14
        try clear c14b0
        try clear hcz10_0
        try clear hcz10_1
        try clear hcz12_0
        try clear hcz12_1
        try clear hcz13_0
        try clear hcz13_1
        try clear hcz4_0
        try clear hcz4_1
        try clear hfz10_0
        try clear hfz10_1
        try clear hfz12_0
        try clear hfz12_1
        try clear hfz13_0
        try clear hfz13_1
        try clear hfz4_0
        try clear hfz4_1
        try clear hx1621005_0
        try clear hx1621006_0
        try clear p1
        try clear p1621005
        try clear p1621006
        try clear p2
        try clear p6
        try clear q1
        try clear q1621005
        try clear q1621006
        obtain ⟨x6_3, x7_3, rfl, rfl, HA, HK3, HO_3, BK1621001, HB⟩ := hrel
        cases gk with
        | zero => exact absurd HA.out (by simp [spec_l06Twice.l2])
        | succ k3 =>
         have H := HA.out
         clear HA
         simp only [spec_l06Twice.l2] at H
         by_cases c16 : x7_3 < (x3_1.length : Int)
         ·rw [if_pos c16] at H
          have c16b0 : decide (x7_3 < (x3_1.length : Int)) = true := decide_eq_true c16
          clear c16
          by_cases c17 : 0 ≤ x7_3
          ·rw [if_pos c17] at H
           have c17b0 : decide (0 ≤ x7_3) = true := decide_eq_true c17
           clear c17
           by_cases c18 : 0 ≤ x5_2
           ·rw [if_pos c18] at H
            have c18b0 : decide (0 ≤ x5_2) = true := decide_eq_true c18
            clear c18
            by_cases c19 : x5_2 < (x3_1.length : Int)
            ·rw [if_pos c19] at H
             have c19b0 : decide (x5_2 < (x3_1.length : Int)) = true := decide_eq_true c19
             clear c19
             by_cases c20 : (rd x3_1 x7_3) = (rd x3_1 x5_2)
             ·rw [if_pos c20] at H
              have c20b0 : ((rd x3_1 x7_3) == (rd x3_1 x5_2)) = true := beq_iff_eq.mpr c20
              have c20b1 : ((rd x3_1 x7_3) != (rd x3_1 x5_2)) = false := bne_eq_false_iff_eq.mpr c20
              clear c20
              have H' := Aside0.mk H
              clear H
              have p1621010 : 0 ≤ (x7_3 : Int) := of_decide_eq_true (by first | (with_reducible assumption) | assumption)
              have q1621010 : x7_3 < (x3_1.length : Int) := of_decide_eq_true (by first | (with_reducible assumption) | assumption)
              obtain ⟨ad1621010, e1621010, hx1621010_0⟩ := Kd.at_int (Kd.R_reads' HO_3.out).2.2 x7_3 p1621010 q1621010
              cases e1621010
              replace p1621010 := eq_true p1621010
              replace q1621010 := eq_true q1621010
              have p1621011 : 0 ≤ (x5_2 : Int) := of_decide_eq_true (by first | (with_reducible assumption) | assumption)
              have q1621011 : x5_2 < (x3_1.length : Int) := of_decide_eq_true (by first | (with_reducible assumption) | assumption)
              obtain ⟨ad1621011, e1621011, hx1621011_0⟩ := Kd.at_int (Kd.R_reads' HO_3.out).2.2 x5_2 p1621011 q1621011
              obtain rfl : ad1621010 = ad1621011 := (by injection e1621011)
              replace p1621011 := eq_true p1621011
              replace q1621011 := eq_true q1621011
              go_wp2
              repeat (go_quiet (fail); try go_wp2)
              go_roundg k3
              case measure => have := HK1.out; have := HK2.out; have := HK3.out; omega
              case rel => exact ⟨(wrap64 (x6_3 + 1)), (wrap64 (x7_3 + 1)), (by first | rfl | (simp; done) | (simp [*]; done)), (by first | rfl | (simp; done) | (simp [*]; done)), H', ⟨by have := HK1.out; have := HK2.out; have := HK3.out; omega⟩, ⟨by (with_reducible repeat (first | apply Kd.R_alloc | apply Kd.R_drewN | apply Kd.R_drew)); exact HO_3.out⟩, ⟨by (with_reducible repeat (first | refine blk_drewN ?_ _ | refine blk_drew ?_ | refine blk_alloc ?_ _)); exact BK1621001.out⟩, ⟨by repeat (first | (with_reducible first | exact HB.out | apply below_alloc | apply pw_below_drewN | apply below_drew1 | refine below_set ?_ GE1621001.out) | exact HB.out)⟩⟩
             ·rw [if_neg c20] at H
              have c20b0 : ((rd x3_1 x7_3) == (rd x3_1 x5_2)) = false := beq_eq_false_iff_ne.mpr c20
              have c20b1 : ((rd x3_1 x7_3) != (rd x3_1 x5_2)) = true := bne_iff_ne.mpr c20
              have H' := Aside0.mk H
              clear H
              have p1621010 : 0 ≤ (x7_3 : Int) := of_decide_eq_true (by first | (with_reducible assumption) | assumption)
              have q1621010 : x7_3 < (x3_1.length : Int) := of_decide_eq_true (by first | (with_reducible assumption) | assumption)
              obtain ⟨ad1621010, e1621010, hx1621010_0⟩ := Kd.at_int (Kd.R_reads' HO_3.out).2.2 x7_3 p1621010 q1621010
              cases e1621010
              replace p1621010 := eq_true p1621010
              replace q1621010 := eq_true q1621010
              have p1621011 : 0 ≤ (x5_2 : Int) := of_decide_eq_true (by first | (with_reducible assumption) | assumption)
              have q1621011 : x5_2 < (x3_1.length : Int) := of_decide_eq_true (by first | (with_reducible assumption) | assumption)
              obtain ⟨ad1621011, e1621011, hx1621011_0⟩ := Kd.at_int (Kd.R_reads' HO_3.out).2.2 x5_2 p1621011 q1621011
              obtain rfl : ad1621010 = ad1621011 := (by injection e1621011)
              replace p1621011 := eq_true p1621011
              replace q1621011 := eq_true q1621011
              go_wp2
              repeat (go_quiet (fail); try go_wp2)
              go_roundg k3
              case measure => have := HK1.out; have := HK2.out; have := HK3.out; omega
              case rel => exact ⟨(x6_3), (wrap64 (x7_3 + 1)), (by first | rfl | (simp; done) | (simp [*]; done)), (by first | rfl | (simp; done) | (simp [*]; done)), H', ⟨by have := HK1.out; have := HK2.out; have := HK3.out; omega⟩, ⟨by (with_reducible repeat (first | apply Kd.R_alloc | apply Kd.R_drewN | apply Kd.R_drew)); exact HO_3.out⟩, ⟨by (with_reducible repeat (first | refine blk_drewN ?_ _ | refine blk_drew ?_ | refine blk_alloc ?_ _)); exact BK1621001.out⟩, ⟨by repeat (first | (with_reducible first | exact HB.out | apply below_alloc | apply pw_below_drewN | apply below_drew1 | refine below_set ?_ GE1621001.out) | exact HB.out)⟩⟩
            ·rw [if_neg c19] at H
             exact absurd H (by simp)
           ·rw [if_neg c18] at H
            exact absurd H (by simp)
          ·rw [if_neg c17] at H
           exact absurd H (by simp)
         ·rw [if_neg c16] at H
          have c16b0 : decide (x7_3 < (x3_1.length : Int)) = false := decide_eq_false c16
          clear c16
          by_cases c21 : x6_3 = 2
          ·rw [if_pos c21] at H
           have c21b0 : (x6_3 == 2) = true := beq_iff_eq.mpr c21
           have c21b1 : (x6_3 != 2) = false := bne_eq_false_iff_eq.mpr c21
           clear c21
           by_cases c22 : 0 ≤ x5_2
           ·rw [if_pos c22] at H
            have c22b0 : decide (0 ≤ x5_2) = true := decide_eq_true c22
            clear c22
            by_cases c23 : x5_2 < (x3_1.length : Int)
            ·rw [if_pos c23] at H
             have c23b0 : decide (x5_2 < (x3_1.length : Int)) = true := decide_eq_true c23
             clear c23
             replace H := Option.bind_eq_some_iff.mp H
             obtain ⟨t1621013, A240, H⟩ := H
             replace H : (if t1621013 = true then (spec_l06Twice.l1 k3 x3_1 (wrap64 (x5_2 + 1))) else (some false)) = some r := H
             have A24 := Aside0.mk A240
             clear A240
             by_cases c25 : t1621013 = true
             ·subst c25
              have H1 : (spec_l06Twice.l1 k3 x3_1 (wrap64 (x5_2 + 1))) = some r := by rw [if_pos rfl] at H; exact H
              clear H
              have H := H1
              clear H1
              have H' := Aside0.mk H
              clear H
              have p1621012 : 0 ≤ (x5_2 : Int) := of_decide_eq_true (by first | (with_reducible assumption) | assumption)
              have q1621012 : x5_2 < (x3_1.length : Int) := of_decide_eq_true (by first | (with_reducible assumption) | assumption)
              obtain ⟨ad1621012, e1621012, hx1621012_0⟩ := Kd.at_int (Kd.R_reads' HO_3.out).2.2 x5_2 p1621012 q1621012
              cases e1621012
              replace p1621012 := eq_true p1621012
              replace q1621012 := eq_true q1621012
              go_wp2_with (first | (go_at_call 109; (with_reducible refine (spec_l01In.calls (rd x3_1 x5_2) 0 1000 true _ A24.out).mono ?_); rintro e w' ⟨rfl, ⟨nd, rfl⟩⟩; (try first | exact ⟨rfl, _, World.drewN_drewN _ _ _⟩ | exact ⟨rfl, _, Eq.trans (World.drewN_drewN _ _ _) (congrArg (World.drewN _) (Nat.add_assoc _ _ _))⟩)))
              repeat (go_quiet (first | (go_at_call 109; (with_reducible refine (spec_l01In.calls (rd x3_1 x5_2) 0 1000 true _ A24.out).mono ?_); rintro e w' ⟨rfl, ⟨nd, rfl⟩⟩; (try first | exact ⟨rfl, _, World.drewN_drewN _ _ _⟩ | exact ⟨rfl, _, Eq.trans (World.drewN_drewN _ _ _) (congrArg (World.drewN _) (Nat.add_assoc _ _ _))⟩))); try go_wp2_with (first | (go_at_call 109; (with_reducible refine (spec_l01In.calls (rd x3_1 x5_2) 0 1000 true _ A24.out).mono ?_); rintro e w' ⟨rfl, ⟨nd, rfl⟩⟩; (try first | exact ⟨rfl, _, World.drewN_drewN _ _ _⟩ | exact ⟨rfl, _, Eq.trans (World.drewN_drewN _ _ _) (congrArg (World.drewN _) (Nat.add_assoc _ _ _))⟩))))
              go_roundg k3
              case measure => have := HK1.out; have := HK2.out; have := HK3.out; omega
              case rel => exact ⟨(wrap64 (x5_2 + 1)), (by first | rfl | (simp; done) | (simp [*]; done)), H', ⟨by have := HK1.out; have := HK2.out; have := HK3.out; omega⟩, ⟨by (with_reducible repeat (first | apply Kd.R_alloc | apply Kd.R_drewN | apply Kd.R_drew)); exact HO_3.out⟩, ⟨by (with_reducible repeat (first | refine blk_drewN ?_ _ | refine blk_drew ?_ | refine blk_alloc ?_ _)); exact BK1621001.out⟩, ⟨by repeat (first | (with_reducible first | exact HB.out | apply below_alloc | apply pw_below_drewN | apply below_drew1 | refine below_set ?_ GE1621001.out) | exact HB.out)⟩⟩
             ·replace c25 := Bool.eq_false_iff.mpr c25
              subst c25
              have H1 : (some false) = some r := by rw [if_neg (show ¬ (false = true) by decide)] at H; exact H
              clear H
              have H := H1
              clear H1
              obtain rfl := Option.some.inj H
              have p1621012 : 0 ≤ (x5_2 : Int) := of_decide_eq_true (by first | (with_reducible assumption) | assumption)
              have q1621012 : x5_2 < (x3_1.length : Int) := of_decide_eq_true (by first | (with_reducible assumption) | assumption)
              obtain ⟨ad1621012, e1621012, hx1621012_0⟩ := Kd.at_int (Kd.R_reads' HO_3.out).2.2 x5_2 p1621012 q1621012
              cases e1621012
              replace p1621012 := eq_true p1621012
              replace q1621012 := eq_true q1621012
              go_wp2_with (first | (go_at_call 109; (with_reducible refine (spec_l01In.calls (rd x3_1 x5_2) 0 1000 false _ A24.out).mono ?_); rintro e w' ⟨rfl, ⟨nd, rfl⟩⟩; (try first | exact ⟨rfl, _, World.drewN_drewN _ _ _⟩ | exact ⟨rfl, _, Eq.trans (World.drewN_drewN _ _ _) (congrArg (World.drewN _) (Nat.add_assoc _ _ _))⟩)))
              repeat (go_quiet (first | (go_at_call 109; (with_reducible refine (spec_l01In.calls (rd x3_1 x5_2) 0 1000 false _ A24.out).mono ?_); rintro e w' ⟨rfl, ⟨nd, rfl⟩⟩; (try first | exact ⟨rfl, _, World.drewN_drewN _ _ _⟩ | exact ⟨rfl, _, Eq.trans (World.drewN_drewN _ _ _) (congrArg (World.drewN _) (Nat.add_assoc _ _ _))⟩))); try go_wp2_with (first | (go_at_call 109; (with_reducible refine (spec_l01In.calls (rd x3_1 x5_2) 0 1000 false _ A24.out).mono ?_); rintro e w' ⟨rfl, ⟨nd, rfl⟩⟩; (try first | exact ⟨rfl, _, World.drewN_drewN _ _ _⟩ | exact ⟨rfl, _, Eq.trans (World.drewN_drewN _ _ _) (congrArg (World.drewN _) (Nat.add_assoc _ _ _))⟩))))
              go_ret
              exact ⟨by first | rfl | (simp [errW_none, errW_some] <;> rfl) | (simp [*, errW_none, errW_some] <;> rfl), by repeat (first | (with_reducible first | exact HB.out | apply below_alloc | apply pw_below_drewN | apply below_drew1 | refine below_set ?_ GE1621001.out) | exact HB.out)⟩
            ·rw [if_neg c23] at H
             exact absurd H (by simp)
           ·rw [if_neg c22] at H
            exact absurd H (by simp)
          ·rw [if_neg c21] at H
           have c21b0 : (x6_3 == 2) = false := beq_eq_false_iff_ne.mpr c21
           have c21b1 : (x6_3 != 2) = true := bne_iff_ne.mpr c21
           obtain rfl := Option.some.inj H
           go_wp2
           repeat (go_quiet (fail); try go_wp2)
           go_ret
           exact ⟨by first | rfl | (simp [errW_none, errW_some] <;> rfl) | (simp [*, errW_none, errW_some] <;> rfl), by repeat (first | (with_reducible first | exact HB.out | apply below_alloc | apply pw_below_drewN | apply below_drew1 | refine below_set ?_ GE1621001.out) | exact HB.out)⟩
      ·rw [if_neg c14] at H
       have c14b0 : decide (x5_2 < (x3_1.length : Int)) = false := decide_eq_false c14
       clear c14
       obtain rfl := Option.some.inj H
       obtain ⟨Ao26, co26, eo26⟩ := Kd.R_slice HO_3.out
       subst eo26
       go_wp2
       repeat (go_quiet (fail); try go_wp2)
       go_ret
       exact ⟨by first | rfl | (simp [errW_none, errW_some] <;> rfl) | (simp [*, errW_none, errW_some] <;> rfl), by repeat (first | (with_reducible first | exact HB.out | apply below_alloc | apply pw_below_drewN | apply below_drew1 | refine below_set ?_ GE1621001.out) | exact HB.out)⟩

end Go.Proofs.Ytnlhhbnoccobmaa.F
