/- What spec_l06Copy answers, and that the Go text comes to it: for every world in which the arguments read as told. -/
import Derived.Test.YtnlhhbnoccobmaaFgA
namespace Go.Proofs.Ytnlhhbnoccobmaa.F
open Go.RowKit Go.Proofs.YtnlhhbnoccobmaaW.PrintWords Go.Proofs.YtnlhhbnoccobmaaW.PrintLast Go.Proofs.YtnlhhbnoccobmaaW.PrintMore
attribute [local go_sem] max2_int min2_int max_two min_two max_three min_three max_four min_four   -- for this text's walks alone
set_option linter.unusedVariables false
set_option linter.unusedSimpArgs false

/-! ### spec_l06Copy: function 110 -/
def spec_l06Copy.l0 : Nat → Int → List Int → List (List Int) → List Int → List (List Int) → Option (List Int × (List (List Int)))
 | 0, _, _, _, _, _ => none
 | k + 1, x4, x1101002000, x1101002001, x1101010000, x1101010001 => if x4 < (x1101002001.length : Int) then (if 0 ≤ x4 then ((spec_l01Own.f (rd_L1 x1101002001 x4)).bind fun t1101011 => (if x1101010001.length < 5864062014805 then (spec_l06Copy.l0 k (wrap64 (x4 + 1)) x1101002000 x1101002001 x1101010000 (x1101010001 ++ [t1101011])) else (none))) else (none)) else (some (x1101010000, x1101010001))
def spec_l06Copy.f (k : Nat) (l0_0 : List Int) (l0_1 : List (List Int)) : Option (List Int × (List (List Int))) := (spec_l01Own.f l0_0).bind fun t1101003 => (spec_l06Copy.l0 k 0 l0_0 l0_1 t1101003 (([] : List (List Int))))
theorem spec_l06Copy.mono_l : ∀ k, (∀ y0 y1 y2 y3 y4, LeO (spec_l06Copy.l0 k y0 y1 y2 y3 y4) (spec_l06Copy.l0 (k + 1) y0 y1 y2 y3 y4))
 | 0 => fun _ _ _ _ _ r h => by simp [spec_l06Copy.l0] at h
 | k + 1 => by
  have ih0 := spec_l06Copy.mono_l k
  ·intro y0 y1 y2 y3 y4
   unfold spec_l06Copy.l0
   repeat' first
   | (with_reducible exact ih0 _ _ _ _ _)
   | (with_reducible exact LeO.refl _)
   | (with_reducible exact LeO.none _)
   | (with_reducible refine LeO.ite ?_ ?_)
   | (with_reducible refine LeO.bind ?_ (fun _ => ?_))
   | exact ih0 _ _ _ _ _
   | exact LeO.none _
   | refine LeO.ite ?_ ?_
   | refine LeO.bind ?_ (fun _ => ?_)
theorem spec_l06Copy.mono : ∀ a0 a1 k, LeO (spec_l06Copy.f k a0 a1) (spec_l06Copy.f (k + 1) a0 a1) := by
 intro a0 a1 k
 have ih0 := spec_l06Copy.mono_l k
 unfold spec_l06Copy.f
 repeat' first
   | (with_reducible exact ih0 _ _ _ _ _)
   | (with_reducible exact LeO.refl _)
   | (with_reducible exact LeO.none _)
   | (with_reducible refine LeO.ite ?_ ?_)
   | (with_reducible refine LeO.bind ?_ (fun _ => ?_))
   | exact ih0 _ _ _ _ _
   | exact LeO.none _
   | refine LeO.ite ?_ ?_
   | refine LeO.bind ?_ (fun _ => ?_)
def spec_l06Copy.T5 : Bool × List (List Nat × List Nat) := (true, [([], []), ([0], [0]), ([], []), ([2], [2]), ([], []), ([3, 4], [3, 4]), ([5], [5]), ([6], [6]), ([7], [7]), ([1, 8, 7], [1, 8]), ([0, 1, 2, 3, 4, 5, 6, 7, 8, 9], []), ([10, 9, 9, 0, 1, 2, 3, 4, 5, 6, 7, 8, 9], [9, 10])])
def spec_l06Copy.B5 : List Nat := [0, 1, 0, 4, 0, 28, 60, 124, 252, 511, 1023, 2047]
theorem spec_l06Copy.tab5 : rtab .any (opsOf Try.f110 5) = spec_l06Copy.T5 := by kernel_rfl
theorem spec_l06Copy.bits5 : waitsOk spec_l06Copy.T5.2 spec_l06Copy.B5 = true := by kernel_rfl
set_option maxHeartbeats 8000000 in
set_option maxRecDepth 100000 in
theorem spec_l06Copy.calls (k : Nat) (A0_0 : Option Addr) (c0_0 : Nat) (l0_0 : List Int) (A0_1 : Option Addr) (c0_1 : Nat) (l0_1 : List (List Int)) (r1 : List Int) (r2 : List (List Int)) (w : World) (hr0_0 : Kd.C (Kd.int .i64) w A0_0 l0_0.length l0_0) (hc0_0 : l0_0.length ≤ c0_0) (hr0_1 : Kd.C (Kd.slice 2 (Kd.int .i64)) w A0_1 l0_1.length l0_1) (hc0_1 : l0_1.length ≤ c0_1) (h : spec_l06Copy.f k l0_0 l0_1 = some (r1, r2)) :
  Calls Try.prog 110 #[.agg #[.slice A0_0 l0_0.length c0_0, .slice A0_1 l0_1.length c0_1]] w fun e w' => ∃ v0_ v1_ : Value, e = .returned (.agg #[v0_, v1_]) ∧ Kd.R (Kd.int .i64) 2 w' w.heap.size (fun _ => True) v0_ r1 ∧ Kd.S (Kd.slice 2 (Kd.int .i64)) 22 w' w.heap.size (fun k_ => some k_ ≠ (v0_ : Value).ownBlock) v1_ r2 ∧ Below w.heap.size w w' := by
 have hu28 := Try.underlying28
 have HR0_0 := Aside0.mk hr0_0
 have HC0_0 := Aside0.mk hc0_0
 clear hr0_0 hc0_0
 have HR0_1 := Aside0.mk hr0_1
 have HC0_1 := Aside0.mk hc0_1
 clear hr0_1 hc0_1
 have HB := Aside0.mk (Below.refl w.heap.size w)
 have H : ((spec_l01Own.f l0_0).bind fun t1101003 => (spec_l06Copy.l0 k 0 l0_0 l0_1 t1101003 (([] : List (List Int))))) = some (r1, r2) := h
 clear h
 replace H := Option.bind_eq_some_iff.mp H
 obtain ⟨t1101003, A20, H⟩ := H
 replace H : (spec_l06Copy.l0 k 0 l0_0 l0_1 t1101003 (([] : List (List Int)))) = some (r1, r2) := H
 have A2 := Aside0.mk A20
 clear A20
 obtain ⟨y1101006, hy1101006⟩ : ∃ y_ : List (List Int), y_ = (([] : List (List Int))) := ⟨_, rfl⟩
 replace H : (spec_l06Copy.l0 k 0 l0_0 l0_1 t1101003 y1101006) = some (r1, r2) := by first | (rw [hy1101006]; with_reducible exact H) | (have H2_ := (Option.bind_some _ _).symm.trans H; rw [hy1101006]; with_reducible exact H2_) | (have H2_ := (Option.bind_some _ _).symm.trans H; with_reducible exact H2_) | with_reducible exact H | (rw [hy1101006]; exact H) | exact H
 have Ny1101006 := Aside0.mk hy1101006
 clear hy1101006
 have H' := Aside0.mk H
 clear H
 go_enter Try.func110, Try.ntmps110
 go_wp2_with (first | ((with_reducible refine gate_dst (N := 1) rfl ?_); refine box_event ?hg (N := 1) ?hd (cs := #[.slice A0_0 l0_0.length c0_0, .slice A0_1 l0_1.length c0_1]) (t := 28) ?hr ?_; (case hd => rfl); (case hg => rfl); (case hr => first | (go_simp; done) | (go_simp; rfl)); intro gb1101001 hg w3 hbox hb; have n0_ := Aside0.mk (below_step (by repeat (first | (with_reducible first | exact HB.out | apply below_alloc | apply pw_below_drewN | apply below_drew1) | exact HB.out)) hb); have n1_ := Aside0.mk (hbox); have n2_ := Aside0.mk ((by rw [hg]; exact (below_size (by repeat (first | (with_reducible first | exact HB.out | apply below_alloc | apply pw_below_drewN | apply below_drew1) | exact HB.out))) : w.heap.size ≤ gb1101001)); have n3_ := Aside0.mk ((by rw [hg]; exact (below_size (by repeat (first | (with_reducible first | exact HB.out | apply below_alloc | apply pw_below_drewN | apply below_drew1) | exact HB.out))) : w.heap.size ≤ gb1101001)); clear HB; have HB := n0_; have BK1101001 := n1_; have GW1101001 := n2_; have GE1101001 := n3_; clear n0_ n1_ n2_ n3_; clear hb hbox hg) | ((with_reducible refine gate_dst (N := 2) rfl ?_); refine box_event ?hg (N := 2) ?hd (cs := #[.slice none 0 0, .slice none 0 0]) (t := 28) ?hr ?_; (case hd => rfl); (case hg => rfl); (case hr => first | (go_simp; done) | (go_simp; rfl)); intro gb1101002 hg w4 hbox hb; have n0_ := Aside0.mk (blk_below (g := gb1101001) (o := .cells #[.slice A0_0 l0_0.length c0_0, .slice A0_1 l0_1.length c0_1] 28 (0, 0)) (by (with_reducible repeat (first | refine blk_drewN ?_ _ | refine blk_drew ?_ | refine blk_alloc ?_ _)); exact BK1101001.out) hb); have n1_ := Aside0.mk (below_step (by repeat (first | (with_reducible first | exact HB.out | apply below_alloc | apply pw_below_drewN | apply below_drew1 | refine below_set ?_ GE1101001.out) | exact HB.out)) hb); have n2_ := Aside0.mk (hbox); have n3_ := Aside0.mk ((by rw [hg]; exact (below_size (by repeat (first | (with_reducible first | exact HB.out | apply below_alloc | apply pw_below_drewN | apply below_drew1 | refine below_set ?_ GE1101001.out) | exact HB.out))) : w.heap.size ≤ gb1101002)); have n4_ := Aside0.mk ((by rw [hg]; exact (below_size (by repeat (first | (with_reducible first | exact HB.out | apply below_alloc | apply pw_below_drewN | apply below_drew1 | refine below_set ?_ GE1101001.out) | exact HB.out))) : w.heap.size ≤ gb1101002)); have n5_ := Aside0.mk ((by rw [hg]; exact Nat.ne_of_lt (blk_lt (g := gb1101001) (o := .cells #[.slice A0_0 l0_0.length c0_0, .slice A0_1 l0_1.length c0_1] 28 (0, 0)) (by (with_reducible repeat (first | refine blk_drewN ?_ _ | refine blk_drew ?_ | refine blk_alloc ?_ _)); exact BK1101001.out)) : gb1101001 ≠ gb1101002)); have n6_ := Aside0.mk ((by rw [hg]; exact Nat.ne_of_gt (blk_lt (g := gb1101001) (o := .cells #[.slice A0_0 l0_0.length c0_0, .slice A0_1 l0_1.length c0_1] 28 (0, 0)) (by (with_reducible repeat (first | refine blk_drewN ?_ _ | refine blk_drew ?_ | refine blk_alloc ?_ _)); exact BK1101001.out)) : gb1101002 ≠ gb1101001)); clear BK1101001; clear HB; have BK1101001 := n0_; have HB := n1_; have BK1101002 := n2_; have GW1101002 := n3_; have GE1101002 := n4_; have NB1101001_1101002 := n5_; have NB1101002_1101001 := n6_; clear n0_ n1_ n2_ n3_ n4_ n5_ n6_; clear hb hbox hg; have hnb5 := NB1101001_1101002.out; have hnc5 := NB1101002_1101001.out; have hcz6_0 : w4.cell? ⟨gb1101001, 0, none⟩ = some (.slice A0_0 l0_0.length c0_0) := (blk_cell BK1101001.out 0).trans rfl; have hcz6_1 : w4.cell? ⟨gb1101001, 1, none⟩ = some (.slice A0_1 l0_1.length c0_1) := (blk_cell BK1101001.out 1).trans rfl; have hfz6_0 := blk_frozen BK1101001.out 0; have hfz6_1 := blk_frozen BK1101001.out 1) | ((with_reducible refine gate_callee (f := 137) rfl ?_); refine goesL_ (some 7) rfl rfl Try.func137 (by kernel_rfl) rfl #[.slice A0_0 l0_0.length c0_0] rfl (by (try simp only [List.map_toArray, List.map_cons, List.map_nil]); first | done | rfl | (simp only [List.length_drop, List.length_take]; rfl)) ?_; (with_reducible refine (spec_l01Own.calls _ _ l0_0 t1101003 _ ?side1 ?side2 A2.out).mono ?_); (case side1 => repeat (first | exact (Kd.C_below HR0_0.out HB.out) | (with_reducible refine Kd.C_alloc ?_ _) | (with_reducible refine Kd.C_drewN ?_ _) | (with_reducible refine Kd.C_drew ?_))); (case side2 => exact HC0_0.out); rintro e w7 ⟨v1101004, rfl, ho0, hb⟩; refine ⟨_, rfl, ?_⟩; have n0_ := Aside0.mk (Kd.R_lower ho0 (below_size (by repeat (first | (with_reducible first | exact HB.out | apply below_alloc | apply pw_below_drewN | apply below_drew1 | refine below_set ?_ GE1101001.out | refine below_set ?_ GE1101002.out) | exact HB.out)))); have n1_ := Aside0.mk (blk_below (g := gb1101001) (o := .cells #[.slice A0_0 l0_0.length c0_0, .slice A0_1 l0_1.length c0_1] 28 (0, 0)) (by (with_reducible repeat (first | refine blk_drewN ?_ _ | refine blk_drew ?_ | refine blk_alloc ?_ _)); exact BK1101001.out) hb); have n2_ := Aside0.mk (blk_below (g := gb1101002) (o := .cells #[.slice none 0 0, .slice none 0 0] 28 (0, 0)) (by (with_reducible repeat (first | refine blk_drewN ?_ _ | refine blk_drew ?_ | refine blk_alloc ?_ _)); exact BK1101002.out) hb); have n3_ := Aside0.mk (below_step (by repeat (first | (with_reducible first | exact HB.out | apply below_alloc | apply pw_below_drewN | apply below_drew1 | refine below_set ?_ GE1101001.out | refine below_set ?_ GE1101002.out) | exact HB.out)) hb); clear BK1101001; clear BK1101002; clear HB; have HO1101005 := n0_; have BK1101001 := n1_; have BK1101002 := n2_; have HB := n3_; clear n0_ n1_ n2_ n3_; (try clear hb); (try clear hb2); (try clear hk); (try clear hi); (try clear ho0)) | ((with_reducible refine gate_dst (N := 8) rfl ?_); refine Kd.S_lit (Kd.slice 2 (Kd.int .i64)) _ 22 ?hg (N := 8) ?hd (xs := ([] : List (List Int))) (inner := []) (ok := fun _ => True) (okp := fun _ => True) ?hr ?hp (fun _ hk => hk) trivial (Below.refl _ _) (Nat.le_refl _) (by simp) ?_; (case hd => rfl); (case hg => rfl); (case hr => first | (go_simp; done) | (go_simp; rfl)); (case hp => exact (Reps.none _ _)); intro v1101007 w8 ho9 hb hg_ hnew_; clear hg_ hnew_; (first | rw [← Ny1101006.out] at ho9 | (simp only [Int.reduceToNat] at ho9; rw [← Ny1101006.out] at ho9)); have n0_ := Aside0.mk (Kd.R_below (by (with_reducible repeat (first | apply Kd.R_alloc | apply Kd.R_drewN | apply Kd.R_drew)); exact HO1101005.out) hb); have n1_ := Aside0.mk (Kd.S_lower (Kd.S_new' ho9 (Kd.R_lt (by (with_reducible repeat (first | apply Kd.R_alloc | apply Kd.R_drewN | apply Kd.R_drew)); exact HO1101005.out))) (below_size (by repeat (first | (with_reducible first | exact HB.out | apply below_alloc | apply pw_below_drewN | apply below_drew1 | refine below_set ?_ GE1101001.out | refine below_set ?_ GE1101002.out) | exact HB.out)))); have n2_ := Aside0.mk (blk_below (g := gb1101001) (o := .cells #[.slice A0_0 l0_0.length c0_0, .slice A0_1 l0_1.length c0_1] 28 (0, 0)) (by (with_reducible repeat (first | refine blk_drewN ?_ _ | refine blk_drew ?_ | refine blk_alloc ?_ _)); exact BK1101001.out) hb); have n3_ := Aside0.mk (blk_below (g := gb1101002) (o := .cells #[.slice none 0 0, .slice none 0 0] 28 (0, 0)) (by (with_reducible repeat (first | refine blk_drewN ?_ _ | refine blk_drew ?_ | refine blk_alloc ?_ _)); exact BK1101002.out) hb); have n4_ := Aside0.mk (below_step (by repeat (first | (with_reducible first | exact HB.out | apply below_alloc | apply pw_below_drewN | apply below_drew1 | refine below_set ?_ GE1101001.out | refine below_set ?_ GE1101002.out) | exact HB.out)) hb); clear HO1101005; clear BK1101001; clear BK1101002; clear HB; have HO1101005 := n0_; have HO1101008 := n1_; have BK1101001 := n2_; have BK1101002 := n3_; have HB := n4_; clear n0_ n1_ n2_ n3_ n4_; clear hb ho9; obtain ⟨Ao10, co10, eo10⟩ := Kd.S_slice HO1101008.out; subst eo10; obtain ⟨Ao11, co11, eo11⟩ := Kd.R_slice HO1101005.out; subst eo11) | ((with_reducible refine gate_dst (N := 3) rfl ?_); refine box_event ?hg (N := 3) ?hd (cs := #[.slice none 0 0, .slice none 0 0]) (t := 28) ?hr ?_; (case hd => rfl); (case hg => rfl); (case hr => first | (go_simp; done) | (go_simp; rfl)); intro gb1101009 hg w12 hbox hb; have n0_ := Aside0.mk (Kd.R_below (by (with_reducible repeat (first | apply Kd.R_alloc | apply Kd.R_drewN | apply Kd.R_drew)); exact HO1101005.out) hb); have n1_ := Aside0.mk (Kd.S_below (by (with_reducible repeat (first | apply Kd.S_alloc | apply Kd.S_drewN | apply Kd.S_drew)); exact HO1101008.out) hb); have n2_ := Aside0.mk (blk_below (g := gb1101001) (o := .cells #[.slice A0_0 l0_0.length c0_0, .slice A0_1 l0_1.length c0_1] 28 (0, 0)) (by (with_reducible repeat (first | refine blk_drewN ?_ _ | refine blk_drew ?_ | refine blk_alloc ?_ _)); exact BK1101001.out) hb); have n3_ := Aside0.mk (blk_below (g := gb1101002) (o := .cells #[.slice none 0 0, .slice none 0 0] 28 (0, 0)) (by (with_reducible repeat (first | refine blk_drewN ?_ _ | refine blk_drew ?_ | refine blk_alloc ?_ _)); exact BK1101002.out) hb); have n4_ := Aside0.mk (below_step (by repeat (first | (with_reducible first | exact HB.out | apply below_alloc | apply pw_below_drewN | apply below_drew1 | refine below_set ?_ GE1101001.out | refine below_set ?_ GE1101002.out) | exact HB.out)) hb); have n5_ := Aside0.mk (hbox); have n6_ := Aside0.mk ((by rw [hg]; exact (below_size (by repeat (first | (with_reducible first | exact HB.out | apply below_alloc | apply pw_below_drewN | apply below_drew1 | refine below_set ?_ GE1101001.out | refine below_set ?_ GE1101002.out) | exact HB.out))) : w.heap.size ≤ gb1101009)); have n7_ := Aside0.mk ((by rw [hg]; exact (below_size (by repeat (first | (with_reducible first | exact HB.out | apply below_alloc | apply pw_below_drewN | apply below_drew1 | refine below_set ?_ GE1101001.out | refine below_set ?_ GE1101002.out) | exact HB.out))) : w.heap.size ≤ gb1101009)); have n8_ := Aside0.mk ((by rw [hg]; exact Nat.ne_of_lt (blk_lt (g := gb1101001) (o := .cells #[.slice A0_0 l0_0.length c0_0, .slice A0_1 l0_1.length c0_1] 28 (0, 0)) (by (with_reducible repeat (first | refine blk_drewN ?_ _ | refine blk_drew ?_ | refine blk_alloc ?_ _)); exact BK1101001.out)) : gb1101001 ≠ gb1101009)); have n9_ := Aside0.mk ((by rw [hg]; exact Nat.ne_of_gt (blk_lt (g := gb1101001) (o := .cells #[.slice A0_0 l0_0.length c0_0, .slice A0_1 l0_1.length c0_1] 28 (0, 0)) (by (with_reducible repeat (first | refine blk_drewN ?_ _ | refine blk_drew ?_ | refine blk_alloc ?_ _)); exact BK1101001.out)) : gb1101009 ≠ gb1101001)); have n10_ := Aside0.mk ((by rw [hg]; exact Nat.ne_of_lt (blk_lt (g := gb1101002) (o := .cells #[.slice none 0 0, .slice none 0 0] 28 (0, 0)) (by (with_reducible repeat (first | refine blk_drewN ?_ _ | refine blk_drew ?_ | refine blk_alloc ?_ _)); exact BK1101002.out)) : gb1101002 ≠ gb1101009)); have n11_ := Aside0.mk ((by rw [hg]; exact Nat.ne_of_gt (blk_lt (g := gb1101002) (o := .cells #[.slice none 0 0, .slice none 0 0] 28 (0, 0)) (by (with_reducible repeat (first | refine blk_drewN ?_ _ | refine blk_drew ?_ | refine blk_alloc ?_ _)); exact BK1101002.out)) : gb1101009 ≠ gb1101002)); clear HO1101005; clear HO1101008; clear BK1101001; clear BK1101002; clear HB; have HO1101005 := n0_; have HO1101008 := n1_; have BK1101001 := n2_; have BK1101002 := n3_; have HB := n4_; have BK1101009 := n5_; have GW1101009 := n6_; have GE1101009 := n7_; have NB1101001_1101009 := n8_; have NB1101009_1101001 := n9_; have NB1101002_1101009 := n10_; have NB1101009_1101002 := n11_; clear n0_ n1_ n2_ n3_ n4_ n5_ n6_ n7_ n8_ n9_ n10_ n11_; clear hb hbox hg; have hnb13 := NB1101009_1101001.out; have hnc13 := NB1101001_1101009.out; have hnb14 := NB1101009_1101002.out; have hnc14 := NB1101002_1101009.out; have hcz15_0 : w12.cell? ⟨gb1101009, 0, none⟩ = some (.slice none 0 0) := (blk_cell BK1101009.out 0).trans rfl; have hcz15_1 : w12.cell? ⟨gb1101009, 1, none⟩ = some (.slice none 0 0) := (blk_cell BK1101009.out 1).trans rfl; have hfz15_0 := blk_frozen BK1101009.out 0; have hfz15_1 := blk_frozen BK1101009.out 1))
 go_loopg [4] k (fun kq v4 w' => ∃ (x4_1 : Int) (x1101010001_1 : List (List Int)) (u1101010001 : Value), v4 = .int .i64 x4_1 ∧ Aside0 (spec_l06Copy.l0 kq x4_1 l0_0 l0_1 t1101003 x1101010001_1 = some (r1, r2)) ∧ Aside0 (kq ≤ k) ∧ Aside0 (Kd.R (Kd.int .i64) 2 w' w.heap.size (fun _ => True) (.slice Ao11 t1101003.length co11) t1101003) ∧ Aside0 (Kd.S (Kd.slice 2 (Kd.int .i64)) 22 w' w.heap.size (fun k_ => some k_ ≠ ((.slice Ao11 t1101003.length co11) : Value).ownBlock) u1101010001 x1101010001_1) ∧ Aside0 (w'.heap[gb1101001]? = some (.cells #[(.slice A0_0 l0_0.length c0_0), (.slice A0_1 l0_1.length c0_1)] 28 (0, 0))) ∧ Aside0 (w'.heap[gb1101002]? = some (.cells #[(.slice none 0 0), (.slice none 0 0)] 28 (0, 0))) ∧ Aside0 (w'.heap[gb1101009]? = some (.cells #[(.slice Ao11 t1101003.length co11), u1101010001] 28 (0, 0))) ∧ Aside0 (Below w.heap.size w w'))
 case atStart => exact ⟨(0), (y1101006), (.slice Ao10 y1101006.length co10), (by first | rfl | (simp; done) | (simp [*]; done)), H', ⟨Nat.le_refl _⟩, ⟨by (with_reducible repeat (first | apply Kd.R_alloc | apply Kd.R_drewN | apply Kd.R_drew)); exact Kd.R_mono (Kd.R_far (p := ⟨gb1101009, 1, none⟩) (Kd.R_far (p := ⟨gb1101009, 0, none⟩) (Kd.R_types HO1101005.out BK1101009.out (by decide)) (fun _ hk => hk.2) (.slice Ao11 t1101003.length co11)) (fun _ hk => hk.2) (.slice Ao10 y1101006.length co10)) (fun _ hk => trivial)⟩, ⟨by (with_reducible repeat (first | apply Kd.S_alloc | apply Kd.S_drewN | apply Kd.S_drew)); exact Kd.S_mono (Kd.S_far (p := ⟨gb1101009, 1, none⟩) (Kd.S_far (p := ⟨gb1101009, 0, none⟩) (Kd.S_types HO1101008.out BK1101009.out (by decide)) (fun _ hk => hk.2) (.slice Ao11 t1101003.length co11)) (fun _ hk => hk.2) (.slice Ao10 y1101006.length co10)) (fun _ hk => hk.1.2)⟩, ⟨by (with_reducible repeat (first | refine blk_drewN ?_ _ | refine blk_drew ?_ | refine blk_alloc ?_ _)); refine blk_far ?_ NB1101001_1101009.out _; (with_reducible repeat (first | refine blk_drewN ?_ _ | refine blk_drew ?_ | refine blk_alloc ?_ _)); refine blk_far ?_ NB1101001_1101009.out _; (with_reducible repeat (first | refine blk_drewN ?_ _ | refine blk_drew ?_ | refine blk_alloc ?_ _)); exact BK1101001.out⟩, ⟨by (with_reducible repeat (first | refine blk_drewN ?_ _ | refine blk_drew ?_ | refine blk_alloc ?_ _)); refine blk_far ?_ NB1101002_1101009.out _; (with_reducible repeat (first | refine blk_drewN ?_ _ | refine blk_drew ?_ | refine blk_alloc ?_ _)); refine blk_far ?_ NB1101002_1101009.out _; (with_reducible repeat (first | refine blk_drewN ?_ _ | refine blk_drew ?_ | refine blk_alloc ?_ _)); exact BK1101002.out⟩, ⟨by (with_reducible repeat (first | refine blk_drewN ?_ _ | refine blk_drew ?_ | refine blk_alloc ?_ _)); refine blk_put (cs := #[.slice Ao11 t1101003.length co11, .slice none 0 0]) ?_ 1 _ rfl; (with_reducible repeat (first | refine blk_drewN ?_ _ | refine blk_drew ?_ | refine blk_alloc ?_ _)); refine blk_put (cs := #[.slice none 0 0, .slice none 0 0]) ?_ 0 _ rfl; (with_reducible repeat (first | refine blk_drewN ?_ _ | refine blk_drew ?_ | refine blk_alloc ?_ _)); exact BK1101009.out⟩, ⟨by repeat (first | (with_reducible first | exact HB.out | apply below_alloc | apply pw_below_drewN | apply below_drew1 | refine below_set ?_ GE1101001.out | refine below_set ?_ GE1101002.out | refine below_set ?_ GE1101009.out) | exact HB.out)⟩⟩
 case round =>
  clear H'
  try clear c1
  try clear p2
  try clear c5
  try clear c11
  try clear c13
  try clear c14
  try clear hcz15_0
  try clear hcz15_1
  try clear hcz6_0
  try clear hcz6_1
  try clear hfz15_0
  try clear hfz15_1
  try clear hfz6_0
  try clear hfz6_1
  obtain ⟨x4_1, x1101010001_1, u1101010001, rfl, HA, HK1, HO_1101010000, HO_1101010001, BK1101001, BK1101002, BK1101009, HB⟩ := hrel
  cases gk with
  | zero => exact absurd HA.out (by simp [spec_l06Copy.l0])
  | succ k1 =>
   have H := HA.out
   clear HA
   simp only [spec_l06Copy.l0] at H
   by_cases c16 : x4_1 < (l0_1.length : Int)
   ·rw [if_pos c16] at H
    have c16b0 : decide (x4_1 < (l0_1.length : Int)) = true := decide_eq_true c16
    clear c16
    by_cases c17 : 0 ≤ x4_1
    ·rw [if_pos c17] at H
     have c17b0 : decide (0 ≤ x4_1) = true := decide_eq_true c17
     clear c17
     replace H := Option.bind_eq_some_iff.mp H
     obtain ⟨t1101011, A180, H⟩ := H
     replace H : (if x1101010001_1.length < 5864062014805 then (spec_l06Copy.l0 k1 (wrap64 (x4_1 + 1)) l0_0 l0_1 t1101003 (x1101010001_1 ++ [t1101011])) else (none)) = some (r1, r2) := H
     have A18 := Aside0.mk A180
     clear A180
     by_cases c19 : x1101010001_1.length < 5864062014805
     ·rw [if_pos c19] at H
      have LMc19 := Aside0.mk c19
      clear c19
      obtain ⟨y1101014, hy1101014⟩ : ∃ y_ : List (List Int), y_ = (x1101010001_1 ++ [t1101011]) := ⟨_, rfl⟩
      replace H : (spec_l06Copy.l0 k1 (wrap64 (x4_1 + 1)) l0_0 l0_1 t1101003 y1101014) = some (r1, r2) := by first | (rw [hy1101014]; with_reducible exact H) | (have H2_ := (Option.bind_some _ _).symm.trans H; rw [hy1101014]; with_reducible exact H2_) | (have H2_ := (Option.bind_some _ _).symm.trans H; with_reducible exact H2_) | with_reducible exact H | (rw [hy1101014]; exact H) | exact H
      have Ny1101014 := Aside0.mk hy1101014
      clear hy1101014
      have H' := Aside0.mk H
      clear H
      have hnb20 := NB1101001_1101002.out
      have hnc20 := NB1101002_1101001.out
      have hnb21 := NB1101001_1101009.out
      have hnc21 := NB1101009_1101001.out
      have hcz22_0 : wr.cell? ⟨gb1101001, 0, none⟩ = some (.slice A0_0 l0_0.length c0_0) := (blk_cell BK1101001.out 0).trans rfl
      have hcz22_1 : wr.cell? ⟨gb1101001, 1, none⟩ = some (.slice A0_1 l0_1.length c0_1) := (blk_cell BK1101001.out 1).trans rfl
      have hfz22_0 := blk_frozen BK1101001.out 0
      have hfz22_1 := blk_frozen BK1101001.out 1
      try go_wp2
      have n0_ := Aside0.mk (Kd.R_drew HO_1101010000.out)
      have n1_ := Aside0.mk (Kd.S_drew HO_1101010001.out)
      have n2_ := Aside0.mk (blk_drew BK1101001.out)
      have n3_ := Aside0.mk (blk_drew BK1101002.out)
      have n4_ := Aside0.mk (blk_drew BK1101009.out)
      have n5_ := Aside0.mk (below_drew1 HB.out)
      clear HO_1101010000
      clear HO_1101010001
      clear BK1101001
      clear BK1101002
      clear BK1101009
      clear HB
      have HO_1101010000 := n0_
      have HO_1101010001 := n1_
      have BK1101001 := n2_
      have BK1101002 := n3_
      have BK1101009 := n4_
      have HB := n5_
      clear n0_ n1_ n2_ n3_ n4_ n5_
      have p1101010 : 0 ≤ (x4_1 : Int) := of_decide_eq_true (by first | (with_reducible assumption) | assumption)
      have q1101010 : x4_1 < (l0_1.length : Int) := of_decide_eq_true (by first | (with_reducible assumption) | assumption)
      obtain ⟨ad1101010, A1101010_0, c1101010_0, e1101010, hx1101010_0, hl1101010_0, hi1101010_0⟩ := at_L1 HR0_1.out x4_1 p1101010 q1101010
      have hw1101010_0 := hx1101010_0
      cases e1101010
      replace hx1101010_0 := (HB.out.cell (World.block_lt_of_cell? w _ hx1101010_0)).trans hx1101010_0
      have HR1101010_0 := Aside0.mk hi1101010_0
      have HC1101010_0 := Aside0.mk hl1101010_0
      clear hi1101010_0 hl1101010_0
      replace p1101010 := eq_true p1101010
      replace q1101010 := eq_true q1101010
      refine start_ (n := 12) (S := fun w' => w'.cell? ⟨gb1101009, 0, none⟩ = some (.slice Ao11 t1101003.length co11) ∧ w'.cell? ⟨gb1101009, 1, none⟩ = some (u1101010001) ∧ w'.cell? ⟨gb1101001, 0, none⟩ = some (.slice A0_0 l0_0.length c0_0) ∧ w'.cell? ⟨gb1101001, 1, none⟩ = some (.slice (some ad1101010) l0_1.length c0_1) ∧ w'.cell? (ad1101010.add (x4_1).toNat) = some (.slice A1101010_0 (rd_L1 l0_1 x4_1).length c1101010_0)) (ds := [11]) #[false, false, false, false, false, false, false, false, false, false, false, false] (by kernel_rfl) rfl rfl ⟨(blk_cell BK1101009.out 0).trans rfl, (blk_cell BK1101009.out 1).trans rfl, (blk_cell BK1101001.out 0).trans rfl, (blk_cell BK1101001.out 1).trans rfl, ((HB.out.cell (World.block_lt_of_cell? w _ hw1101010_0)).trans hw1101010_0)⟩ (fun hHeld => ?_); refine with_tabW spec_l06Copy.tab5 spec_l06Copy.bits5 (fun HT_ HW_ => ?_)
      generalize wr.drew = w23 at HO_1101010000 HO_1101010001 BK1101001 BK1101002 BK1101009 HB HR1101010_0 hx1101010_0 hHeld ⊢
      refine pure_ (i := 0) (N := some 17) (v := ?_) (a' := ?_) #[true, false, false, false, false, false, false, false, false, false, false, false] rfl rfl (any_of HT_.out (by kernel_rfl)) (fun _ _ _ h => h) (Or.inl ⟨by rfl, ?_⟩) ?_ ?_
      rotate_left
      ·intro w'
       go_simp
       with_reducible rfl
      rotate_left
      ·simp only [Act.put, List.setIfInBounds_toArray, List.set_cons_zero, List.set_cons_succ, i64_w, i32_w]
       rfl
      refine pure_ (i := 2) (N := some 19) (v := ?_) (a' := ?_) #[true, false, true, false, false, false, false, false, false, false, false, false] rfl rfl (any_of HT_.out (by kernel_rfl)) (fun _ _ _ h => h) (Or.inl ⟨by rfl, ?_⟩) ?_ ?_
      rotate_left
      ·intro w'
       go_simp
       with_reducible rfl
      rotate_left
      ·simp only [Act.put, List.setIfInBounds_toArray, List.set_cons_zero, List.set_cons_succ, i64_w, i32_w]
       rfl
      refine pure_ (i := 4) (N := some 21) (v := ?_) (a' := ?_) #[true, false, true, false, true, false, false, false, false, false, false, false] rfl rfl (any_of HT_.out (by kernel_rfl)) (fun _ _ _ h => h) (Or.inl ⟨by rfl, ?_⟩) ?_ ?_
      rotate_left
      ·intro w'
       go_simp
       with_reducible rfl
      rotate_left
      ·simp only [Act.put, List.setIfInBounds_toArray, List.set_cons_zero, List.set_cons_succ, i64_w, i32_w]
       rfl
      refine take_ (i := 1) (N := some 18) (v := ?_) (a' := ?_) #[true, true, true, false, true, false, false, false, false, false, false, false] rfl rfl (take_ofW HT_.out HW_.out (by kernel_rfl)) (fun _ _ _ h => h) (Or.inl ⟨by rfl, ?_⟩) hHeld ?_ ?_
      rotate_left
      ·rintro w' ⟨s0, s1, s2, s3, s4⟩
       go_simp
       with_reducible rfl
      rotate_left
      ·simp only [Act.put, List.setIfInBounds_toArray, List.set_cons_zero, List.set_cons_succ, i64_w, i32_w]
       rfl
      refine take_ (i := 3) (N := some 20) (v := ?_) (a' := ?_) #[true, true, true, true, true, false, false, false, false, false, false, false] rfl rfl (take_ofW HT_.out HW_.out (by kernel_rfl)) (fun _ _ _ h => h) (Or.inl ⟨by rfl, ?_⟩) hHeld ?_ ?_
      rotate_left
      ·rintro w' ⟨s0, s1, s2, s3, s4⟩
       go_simp
       with_reducible rfl
      rotate_left
      ·simp only [Act.put, List.setIfInBounds_toArray, List.set_cons_zero, List.set_cons_succ, i64_w, i32_w]
       rfl
      refine pure_ (i := 5) (N := some 22) (v := ?_) (a' := ?_) #[true, true, true, true, true, true, false, false, false, false, false, false] rfl rfl (any_of HT_.out (by kernel_rfl)) (fun _ _ _ h => h) (Or.inl ⟨by rfl, ?_⟩) ?_ ?_
      rotate_left
      ·intro w'
       go_simp
       with_reducible rfl
      rotate_left
      ·simp only [Act.put, List.setIfInBounds_toArray, List.set_cons_zero, List.set_cons_succ, i64_w, i32_w]
       rfl
      refine take_ (i := 6) (N := some 23) (v := ?_) (a' := ?_) #[true, true, true, true, true, true, true, false, false, false, false, false] rfl rfl (take_ofW HT_.out HW_.out (by kernel_rfl)) (fun _ _ _ h => h) (Or.inl ⟨by rfl, ?_⟩) hHeld ?_ ?_
      rotate_left
      ·rintro w' ⟨s0, s1, s2, s3, s4⟩
       go_simp
       with_reducible rfl
      rotate_left
      ·simp only [Act.put, List.setIfInBounds_toArray, List.set_cons_zero, List.set_cons_succ, i64_w, i32_w]
       rfl
      refine one_ (i := 7) (N := some 24) #[true, true, true, true, true, true, true, true, false, false, false, false] rfl rfl (one_of HT_.out (by kernel_rfl)) (by decide) (fun K hK => ?_)
      refine goes_ Try.func137 (by kernel_rfl) rfl #[.slice A1101010_0 (rd_L1 l0_1 x4_1).length c1101010_0] (by rfl) rfl rfl (by (try simp only [List.map_toArray, List.map_cons, List.map_nil]); first | done | rfl | (simp only [List.length_drop, List.length_take]; rfl)) ?_
      with_reducible refine (spec_l01Own.calls _ _ (rd_L1 l0_1 x4_1) t1101011 _ ?side1 ?side2 A18.out).mono ?_
      (case side1 => repeat (first | exact (Kd.C_below HR1101010_0.out HB.out) | (with_reducible refine Kd.C_alloc ?_ _) | (with_reducible refine Kd.C_drewN ?_ _) | (with_reducible refine Kd.C_drew ?_)))
      (case side2 => exact HC1101010_0.out)
      rintro e w24 ⟨v1101012, rfl, ho0, hb⟩
      refine ⟨_, rfl, ?_⟩
      have n0_ := Aside0.mk (Kd.R_elder' (by (with_reducible repeat (first | apply Kd.R_alloc | apply Kd.R_drewN | apply Kd.R_drew)); exact HO_1101010000.out) (Kd.R_base ho0) hb)
      have n1_ := Aside0.mk (Kd.S_elder' (by (with_reducible repeat (first | apply Kd.S_alloc | apply Kd.S_drewN | apply Kd.S_drew)); exact HO_1101010001.out) (Kd.R_base ho0) hb)
      have n2_ := Aside0.mk (Kd.R_lower (Kd.R_new' ho0 (Kd.R_lt (by (with_reducible repeat (first | apply Kd.R_alloc | apply Kd.R_drewN | apply Kd.R_drew)); exact HO_1101010000.out))) (below_size (by repeat (first | (with_reducible first | exact HB.out | apply below_alloc | apply pw_below_drewN | apply below_drew1 | refine below_set ?_ GE1101001.out | refine below_set ?_ GE1101002.out | refine below_set ?_ GE1101009.out) | exact HB.out))))
      have n3_ := Aside0.mk (blk_below (g := gb1101001) (o := .cells #[.slice A0_0 l0_0.length c0_0, .slice (some ad1101010) l0_1.length c0_1] 28 (0, 0)) (by (with_reducible repeat (first | refine blk_drewN ?_ _ | refine blk_drew ?_ | refine blk_alloc ?_ _)); exact BK1101001.out) hb)
      have n4_ := Aside0.mk (blk_below (g := gb1101002) (o := .cells #[.slice none 0 0, .slice none 0 0] 28 (0, 0)) (by (with_reducible repeat (first | refine blk_drewN ?_ _ | refine blk_drew ?_ | refine blk_alloc ?_ _)); exact BK1101002.out) hb)
      have n5_ := Aside0.mk (blk_below (g := gb1101009) (o := .cells #[.slice Ao11 t1101003.length co11, u1101010001] 28 (0, 0)) (by (with_reducible repeat (first | refine blk_drewN ?_ _ | refine blk_drew ?_ | refine blk_alloc ?_ _)); exact BK1101009.out) hb)
      have n6_ := Aside0.mk (below_step (by repeat (first | (with_reducible first | exact HB.out | apply below_alloc | apply pw_below_drewN | apply below_drew1 | refine below_set ?_ GE1101001.out | refine below_set ?_ GE1101002.out | refine below_set ?_ GE1101009.out) | exact HB.out)) hb)
      clear HO_1101010000
      clear HO_1101010001
      clear BK1101001
      clear BK1101002
      clear BK1101009
      clear HB
      have HO_1101010000 := n0_
      have HO_1101010001 := n1_
      have HO1101013 := n2_
      have BK1101001 := n3_
      have BK1101002 := n4_
      have BK1101009 := n5_
      have HB := n6_
      clear n0_ n1_ n2_ n3_ n4_ n5_ n6_
      (try clear hb)
      (try clear hb2)
      (try clear hk)
      (try clear hi)
      (try clear ho0)
      obtain ⟨Ao26, co26, eo26⟩ := Kd.R_slice HO1101013.out
      (first | subst eo26 | (injection eo26 with f1_ f2_ f3_; have f4_ := f1_.symm; have f5_ := f3_.symm; clear f1_ f2_ f3_; subst f4_; subst f5_))
      refine hK.out _ _ ⟨(blk_cell BK1101009.out 0).trans rfl, (blk_cell BK1101009.out 1).trans rfl, (blk_cell BK1101001.out 0).trans rfl, (blk_cell BK1101001.out 1).trans rfl, ((HB.out.cell (World.block_lt_of_cell? w _ hw1101010_0)).trans hw1101010_0)⟩ (fun hHeld => ?_)
      clear hK K
      refine norm_ (a' := ?_) ?_ ?_
      rotate_left
      ·show Act.put _ (some 24) _ = _
       simp only [Act.put, List.setIfInBounds_toArray, List.set_cons_zero, List.set_cons_succ, i64_w, i32_w]
       rfl
      refine one_ (i := 8) (N := some 25) #[true, true, true, true, true, true, true, true, true, false, false, false] rfl rfl (one_of HT_.out (by kernel_rfl)) (by decide) (fun K hK => ?_)
      refine value_ (w1 := ?_) (v := ?_) (by rfl) rfl ?_ ?_
      rotate_left 2
      ·go_simp
       constructor
       ·rfl
       ·rfl
      refine hK.out _ _ ⟨(blk_cell (blk_alloc BK1101009.out _) 0).trans rfl, (blk_cell (blk_alloc BK1101009.out _) 1).trans rfl, (blk_cell (blk_alloc BK1101001.out _) 0).trans rfl, (blk_cell (blk_alloc BK1101001.out _) 1).trans rfl, (World.cell?_alloc_lt _ _ _ (World.block_lt_of_cell? _ _ (((HB.out.cell (World.block_lt_of_cell? w _ hw1101010_0)).trans hw1101010_0)))).trans (((HB.out.cell (World.block_lt_of_cell? w _ hw1101010_0)).trans hw1101010_0))⟩ (fun hHeld => ?_)
      clear hK K
      refine norm_ (a' := ?_) ?_ ?_
      rotate_left
      ·show Act.put _ (some 25) _ = _
       simp only [Act.put, List.setIfInBounds_toArray, List.set_cons_zero, List.set_cons_succ, i64_w, i32_w]
       rfl
      refine one_ (i := 9) (N := some 26) #[true, true, true, true, true, true, true, true, true, true, false, false] rfl rfl (one_of HT_.out (by kernel_rfl)) (by decide) (fun K hK => ?_)
      refine Kd.S_append_step (Kd.slice 2 (Kd.int .i64)) (w0 := w) w.heap.size (by rfl) (.tmp 18) (.tmp 25) 23 22 (.slice none 0 0) 24 rfl Try.underlying23 info22 rfl (by decide) (by omega) u1101010001 x1101010001_1 t1101011 [.slice Ao26 t1101011.length co26] (fun k_ => some k_ ≠ (.slice Ao11 t1101003.length co11 : Value).ownBlock) (fun k_ => some k_ = (.slice Ao26 t1101011.length co26 : Value).ownBlock) rfl rfl ?aP (fun k_ hk_ => ((Kd.R_mono (ok' := fun k_ => ((fun k_ => some k_ ≠ (.slice Ao11 t1101003.length co11 : Value).ownBlock)) k_ ∧ some k_ ≠ (u1101010001 : Value).ownBlock) (Kd.R_apart' (HO1101013.out) (Kd.S_typed HO_1101010001.out) (by decide)) (fun k_ hk => ⟨hk.1.2, hk.2⟩))).1 k_ hk_.symm) ?aF ?aO ?aB ?aS ?aL ?_
      (case aP => exact Kd.M_row (Kd.R_mono (Kd.R_tight rfl (Kd.R_mono (ok' := fun k_ => ((fun k_ => some k_ ≠ (.slice Ao11 t1101003.length co11 : Value).ownBlock)) k_ ∧ some k_ ≠ (u1101010001 : Value).ownBlock) (Kd.R_apart' (HO1101013.out) (Kd.S_typed HO_1101010001.out) (by decide)) (fun k_ hk => ⟨hk.1.2, hk.2⟩))) (fun _ h_ => h_)))
      (case aB => exact (by repeat (first | (with_reducible first | exact HB.out | apply below_alloc | apply pw_below_drewN | apply below_drew1 | refine below_set ?_ GE1101001.out | refine below_set ?_ GE1101002.out | refine below_set ?_ GE1101009.out) | exact HB.out)))
      (case aF => exact (fun k_ hk => Kd.fresh' (Kd.R_lt (by (with_reducible repeat (first | apply Kd.R_alloc | apply Kd.R_drewN | apply Kd.R_drew)); exact HO_1101010000.out)) k_ hk))
      (case aO => exact (by (with_reducible repeat (first | apply Kd.S_alloc | apply Kd.S_drewN | apply Kd.S_drew)); exact Kd.S_mono HO_1101010001.out (fun k_ hk => ⟨hk.1, fun e_ => hk.2 e_⟩)))
      (case aS => exact (below_size (by repeat (first | (with_reducible first | exact HB.out | apply below_alloc | apply pw_below_drewN | apply below_drew1 | refine below_set ?_ GE1101001.out | refine below_set ?_ GE1101002.out | refine below_set ?_ GE1101009.out) | exact HB.out))))
      (case aL => have := LMc19.out; omega)
      intro v1101015 w25 ho hb hg hat
      rw [← Ny1101014.out] at ho
      have n0_ := Aside0.mk (Kd.R_over' (by (with_reducible repeat (first | apply Kd.R_alloc | apply Kd.R_drewN | apply Kd.R_drew)); exact HO_1101010000.out) (Kd.S_typed (by (with_reducible repeat (first | apply Kd.S_alloc | apply Kd.S_drewN | apply Kd.S_drew)); exact HO_1101010001.out)) (by decide) hg)
      have n1_ := Aside0.mk (blk_grown (g := gb1101001) (o := .cells #[.slice A0_0 l0_0.length c0_0, .slice (some ad1101010) l0_1.length c0_1] 28 (0, 0)) (by (with_reducible repeat (first | refine blk_drewN ?_ _ | refine blk_drew ?_ | refine blk_alloc ?_ _)); exact BK1101001.out) hg (Kd.S_ne HO_1101010001.out BK1101001.out (by decide)))
      have n2_ := Aside0.mk (blk_grown (g := gb1101002) (o := .cells #[.slice none 0 0, .slice none 0 0] 28 (0, 0)) (by (with_reducible repeat (first | refine blk_drewN ?_ _ | refine blk_drew ?_ | refine blk_alloc ?_ _)); exact BK1101002.out) hg (Kd.S_ne HO_1101010001.out BK1101002.out (by decide)))
      have n3_ := Aside0.mk (blk_grown (g := gb1101009) (o := .cells #[.slice Ao11 t1101003.length co11, u1101010001] 28 (0, 0)) (by (with_reducible repeat (first | refine blk_drewN ?_ _ | refine blk_drew ?_ | refine blk_alloc ?_ _)); exact BK1101009.out) hg (Kd.S_ne HO_1101010001.out BK1101009.out (by decide)))
      have n4_ := Aside0.mk (hb)
      have n5_ := Aside0.mk (ho)
      clear HO_1101010000
      clear BK1101001
      clear BK1101002
      clear BK1101009
      clear HB
      clear HO_1101010001
      clear HO1101013
      have HO_1101010000 := n0_
      have BK1101001 := n1_
      have BK1101002 := n2_
      have BK1101009 := n3_
      have HB := n4_
      have HO1101016 := n5_
      clear n0_ n1_ n2_ n3_ n4_ n5_
      clear ho hb hg hat
      obtain ⟨Ao27, co27, eo27⟩ := Kd.S_slice HO1101016.out
      (first | subst eo27 | (injection eo27 with f1_ f2_ f3_; have f4_ := f1_.symm; have f5_ := f3_.symm; clear f1_ f2_ f3_; subst f4_; subst f5_))
      refine hK.out _ _ ⟨(blk_cell BK1101009.out 0).trans rfl, (blk_cell BK1101009.out 1).trans rfl, (blk_cell BK1101001.out 0).trans rfl, (blk_cell BK1101001.out 1).trans rfl, ((HB.out.cell (World.block_lt_of_cell? w _ hw1101010_0)).trans hw1101010_0)⟩ (fun hHeld => ?_)
      clear hK K
      refine norm_ (a' := ?_) ?_ ?_
      rotate_left
      ·show Act.put _ (some 26) _ = _
       simp only [Act.put, List.setIfInBounds_toArray, List.set_cons_zero, List.set_cons_succ, i64_w, i32_w]
       rfl
      refine pure_ (i := 10) (N := some 27) (v := ?_) (a' := ?_) #[true, true, true, true, true, true, true, true, true, true, true, false] rfl rfl (any_of HT_.out (by kernel_rfl)) (fun _ _ _ h => h) (Or.inl ⟨by rfl, ?_⟩) ?_ ?_
      rotate_left
      ·intro w'
       go_simp
       with_reducible rfl
      rotate_left
      ·simp only [Act.put, List.setIfInBounds_toArray, List.set_cons_zero, List.set_cons_succ, i64_w, i32_w]
       rfl
      refine last_ (i := 11) (N := none) #[true, true, true, true, true, true, true, true, true, true, true, true] rfl rfl (one_of HT_.out (by kernel_rfl)) (by decide) (fun K hK => ?_)
      have hs28 : w25.cell? ⟨gb1101009, 1, none⟩ = some (u1101010001) := (blk_cell BK1101009.out 1).trans rfl
      have hfs28 := blk_frozen BK1101009.out 1
      have hns28_0 := NB1101001_1101009.out
      have hns28_1 := NB1101002_1101009.out
      have hms28_0 := NB1101009_1101001.out
      have hms28_1 := NB1101009_1101002.out
      refine skip_ (w1 := ?_) (by rfl) rfl ?_ ?_
      rotate_left
      ·go_simp
       rfl
      refine hK.out _ _ ?_
      clear hK K
      refine done_ (done_of HT_.out (by kernel_rfl)) ?_
      try go_wp2
      go_roundg k1
      case measure => have := HK1.out; omega
      case rel => exact ⟨(wrap64 (x4_1 + 1)), (y1101014), (.slice Ao27 y1101014.length co27), (by first | rfl | (simp; done) | (simp [*]; done)), H', ⟨by have := HK1.out; omega⟩, ⟨by (with_reducible repeat (first | apply Kd.R_alloc | apply Kd.R_drewN | apply Kd.R_drew)); exact Kd.R_mono (Kd.R_far (p := ⟨gb1101009, 1, none⟩) (Kd.R_types HO_1101010000.out BK1101009.out (by decide)) (fun _ hk => hk.2) (.slice Ao27 y1101014.length co27)) (fun _ hk => trivial)⟩, ⟨by (with_reducible repeat (first | apply Kd.S_alloc | apply Kd.S_drewN | apply Kd.S_drew)); exact Kd.S_mono (Kd.S_far (p := ⟨gb1101009, 1, none⟩) (Kd.S_types HO1101016.out BK1101009.out (by decide)) (fun _ hk => hk.2) (.slice Ao27 y1101014.length co27)) (fun _ hk => hk.1)⟩, ⟨by (with_reducible repeat (first | refine blk_drewN ?_ _ | refine blk_drew ?_ | refine blk_alloc ?_ _)); refine blk_far ?_ NB1101001_1101009.out _; (with_reducible repeat (first | refine blk_drewN ?_ _ | refine blk_drew ?_ | refine blk_alloc ?_ _)); exact BK1101001.out⟩, ⟨by (with_reducible repeat (first | refine blk_drewN ?_ _ | refine blk_drew ?_ | refine blk_alloc ?_ _)); refine blk_far ?_ NB1101002_1101009.out _; (with_reducible repeat (first | refine blk_drewN ?_ _ | refine blk_drew ?_ | refine blk_alloc ?_ _)); exact BK1101002.out⟩, ⟨by (with_reducible repeat (first | refine blk_drewN ?_ _ | refine blk_drew ?_ | refine blk_alloc ?_ _)); refine blk_put (cs := #[.slice Ao11 t1101003.length co11, u1101010001]) ?_ 1 _ rfl; (with_reducible repeat (first | refine blk_drewN ?_ _ | refine blk_drew ?_ | refine blk_alloc ?_ _)); exact BK1101009.out⟩, ⟨by repeat (first | (with_reducible first | exact HB.out | apply below_alloc | apply pw_below_drewN | apply below_drew1 | refine below_set ?_ GE1101001.out | refine below_set ?_ GE1101002.out | refine below_set ?_ GE1101009.out) | exact HB.out)⟩⟩
     ·rw [if_neg c19] at H
      exact absurd H (by simp)
    ·rw [if_neg c17] at H
     exact absurd H (by simp)
   ·rw [if_neg c16] at H
    have c16b0 : decide (x4_1 < (l0_1.length : Int)) = false := decide_eq_false c16
    clear c16
    simp only [Option.some.injEq, Prod.mk.injEq] at H
    obtain ⟨rfl, rfl⟩ := H
    have hnb29 := NB1101001_1101002.out
    have hnc29 := NB1101002_1101001.out
    have hnb30 := NB1101001_1101009.out
    have hnc30 := NB1101009_1101001.out
    have hcz31_0 : wr.cell? ⟨gb1101001, 0, none⟩ = some (.slice A0_0 l0_0.length c0_0) := (blk_cell BK1101001.out 0).trans rfl
    have hcz31_1 : wr.cell? ⟨gb1101001, 1, none⟩ = some (.slice A0_1 l0_1.length c0_1) := (blk_cell BK1101001.out 1).trans rfl
    have hfz31_0 := blk_frozen BK1101001.out 0
    have hfz31_1 := blk_frozen BK1101001.out 1
    have hnb32 := NB1101009_1101002.out
    have hnc32 := NB1101002_1101009.out
    have hcz33_0 : wr.cell? ⟨gb1101009, 0, none⟩ = some (.slice Ao11 t1101003.length co11) := (blk_cell BK1101009.out 0).trans rfl
    have hcz33_1 : wr.cell? ⟨gb1101009, 1, none⟩ = some (u1101010001) := (blk_cell BK1101009.out 1).trans rfl
    have hfz33_0 := blk_frozen BK1101009.out 0
    have hfz33_1 := blk_frozen BK1101009.out 1
    have hcz34_0 : wr.cell? ⟨gb1101002, 0, none⟩ = some (.slice none 0 0) := (blk_cell BK1101002.out 0).trans rfl
    have hcz34_1 : wr.cell? ⟨gb1101002, 1, none⟩ = some (.slice none 0 0) := (blk_cell BK1101002.out 1).trans rfl
    have hfz34_0 := blk_frozen BK1101002.out 0
    have hfz34_1 := blk_frozen BK1101002.out 1
    obtain ⟨Ao35, co35, eo35⟩ := Kd.S_slice HO_1101010001.out
    subst eo35
    go_wp2
    refine bodyPost_ret (results_cell_row rfl _ _ gb1101002 28 #[.slice Ao11 t1101003.length co11, .slice Ao35 x1101010001_1.length co35] (0, 0) _ rfl (by (with_reducible repeat (first | refine blk_drewN ?_ _ | refine blk_drew ?_ | refine blk_alloc ?_ _)); refine blk_put (cs := #[.slice Ao11 t1101003.length co11, .slice none 0 0]) ?_ 1 _ rfl; (with_reducible repeat (first | refine blk_drewN ?_ _ | refine blk_drew ?_ | refine blk_alloc ?_ _)); refine blk_put (cs := #[.slice none 0 0, .slice none 0 0]) ?_ 0 _ rfl; (with_reducible repeat (first | refine blk_drewN ?_ _ | refine blk_drew ?_ | refine blk_alloc ?_ _)); exact BK1101002.out) Try.underlying28 rfl (by kernel_rfl)) rfl ?_
    exact ⟨_, _, by first | rfl | (simp [errW_none, errW_some] <;> rfl) | (simp [*, errW_none, errW_some] <;> rfl), by (with_reducible repeat (first | apply Kd.R_alloc | apply Kd.R_drewN | apply Kd.R_drew)); exact Kd.R_mono (Kd.R_far (p := ⟨gb1101002, 1, none⟩) (Kd.R_far (p := ⟨gb1101002, 0, none⟩) (Kd.R_types HO_1101010000.out BK1101002.out (by decide)) (fun _ hk => hk.2) (.slice Ao11 t1101003.length co11)) (fun _ hk => hk.2) (.slice Ao35 x1101010001_1.length co35)) (fun _ hk => trivial), by (with_reducible repeat (first | apply Kd.S_alloc | apply Kd.S_drewN | apply Kd.S_drew)); exact Kd.S_mono (Kd.S_far (p := ⟨gb1101002, 1, none⟩) (Kd.S_far (p := ⟨gb1101002, 0, none⟩) (Kd.S_types HO_1101010001.out BK1101002.out (by decide)) (fun _ hk => hk.2) (.slice Ao11 t1101003.length co11)) (fun _ hk => hk.2) (.slice Ao35 x1101010001_1.length co35)) (fun _ hk => hk.1), by repeat (first | (with_reducible first | exact HB.out | apply below_alloc | apply pw_below_drewN | apply below_drew1 | refine below_set ?_ GE1101001.out | refine below_set ?_ GE1101002.out | refine below_set ?_ GE1101009.out) | exact HB.out)⟩

end Go.Proofs.Ytnlhhbnoccobmaa.F
