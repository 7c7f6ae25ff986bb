/- The row of the law FnExactForkLegs, out of its plain law and the walk. -/
import Derived.Test.YtnlhhbnoccobmaaZFnExactForkLegs4
import Derived.Laws.CopyOwn
import Derived.Lib.SliceRun
import Derived.Deep.RegionLaw
import Derived.WalkSpells
import Derived.BigRegion
import Derived.BigQuiet
import Derived.Maps.OwnRows
import Derived.Maps.GroupsBeside
import Derived.Lib.LazyBuf
import Derived.Lib.SmallJoins
import Derived.Deep.Matrix
import Derived.WalkKit
import Derived.ProofKit
import Derived.OpenShut
import Derived.Test.YtnlhhbnoccobmaaRows
import Derived.JoinedOf
import Derived.KernelRfl
import Derived.ShutString
import Derived.ChangeOld
import Derived.Below
import Derived.SizedLaws
section
namespace Go.Proofs.Ytnlhhbnoccobmaa.F
open Go.RowKit Go.Proofs.YtnlhhbnoccobmaaW.PrintWords Go.Proofs.YtnlhhbnoccobmaaW.PrintLast Go.Proofs.YtnlhhbnoccobmaaW.PrintMore
attribute [local go_sem] max2_int min2_int max_two min_two max_three min_three max_four min_four   
set_option linter.unusedVariables false
set_option linter.unusedSimpArgs false
def impl_cloneWeb.l0 : Nat → List (List Int) → Int → Int → List Int → List (List Int) → Option (List Int × (List (List Int)))
 | 0, _, _, _, _, _ => none
 | k + 1, x11, x12, x13, x1111007000, x1111007001 => if x13 < x12 then (if 0 ≤ x13 then (if x13 < (x11.length : Int) then ((slices_Clone_int64_int64.f (rd_L1 x11 x13)).bind fun t1111008 => (if x1111007001.length < 5864062014805 then (impl_cloneWeb.l0 k x11 x12 (wrap64 (x13 + 1)) x1111007000 (x1111007001 ++ [t1111008])) else (none))) else (none)) else (none)) else (some (x1111007000, x1111007001))
def impl_cloneWeb.f (k : Nat) (l0_0 : List Int) (l0_1 : List (List Int)) : Option (List Int × (List (List Int))) := (slices_Clone_int64_int64.f l0_0).bind fun t1111003 => (impl_cloneWeb.l0 k l0_1 (l0_1.length : Int) 0 t1111003 ([] : List (List Int)))
theorem impl_cloneWeb.mono_l : ∀ k, (∀ y0 y1 y2 y3 y4, LeO (impl_cloneWeb.l0 k y0 y1 y2 y3 y4) (impl_cloneWeb.l0 (k + 1) y0 y1 y2 y3 y4))
 | 0 => fun _ _ _ _ _ r h => by simp [impl_cloneWeb.l0] at h
 | k + 1 => by
  have ih0 := impl_cloneWeb.mono_l k
  ·intro y0 y1 y2 y3 y4
   unfold impl_cloneWeb.l0
   repeat' first
   | (with_reducible exact ih0 _ _ _ _ _)
   | (with_reducible exact LeO.refl _)
   | (with_reducible exact LeO.none _)
   | (with_reducible refine LeO.ite ?_ ?_)
   | (with_reducible refine LeO.bind ?_ (fun _ => ?_))
   | exact ih0 _ _ _ _ _
   | exact LeO.none _
   | refine LeO.ite ?_ ?_
   | refine LeO.bind ?_ (fun _ => ?_)
theorem impl_cloneWeb.mono : ∀ a0 a1 k, LeO (impl_cloneWeb.f k a0 a1) (impl_cloneWeb.f (k + 1) a0 a1) := by
 intro a0 a1 k
 have ih0 := impl_cloneWeb.mono_l k
 unfold impl_cloneWeb.f
 repeat' first
   | (with_reducible exact ih0 _ _ _ _ _)
   | (with_reducible exact LeO.refl _)
   | (with_reducible exact LeO.none _)
   | (with_reducible refine LeO.ite ?_ ?_)
   | (with_reducible refine LeO.bind ?_ (fun _ => ?_))
   | exact ih0 _ _ _ _ _
   | exact LeO.none _
   | refine LeO.ite ?_ ?_
   | refine LeO.bind ?_ (fun _ => ?_)
def impl_cloneWeb.T5 : Bool × List (List Nat × List Nat) := (true, [([], []), ([0], [0]), ([], []), ([2], [2]), ([3], [3]), ([1, 4, 3], [1, 4]), ([0, 1, 2, 3, 4, 5], []), ([6, 5, 5, 0, 1, 2, 3, 4, 5], [5, 6])])
def impl_cloneWeb.B5 : List Nat := [0, 1, 0, 4, 12, 31, 63, 127]
theorem impl_cloneWeb.tab5 : rtab .any (opsOf Try.f111 5) = impl_cloneWeb.T5 := by kernel_rfl
theorem impl_cloneWeb.bits5 : waitsOk impl_cloneWeb.T5.2 impl_cloneWeb.B5 = true := by kernel_rfl
set_option maxHeartbeats 8000000 in
set_option maxRecDepth 100000 in
theorem impl_cloneWeb.calls (k : Nat) (A0_0 : Option Addr) (c0_0 : Nat) (l0_0 : List Int) (A0_1 : Option Addr) (c0_1 : Nat) (l0_1 : List (List Int)) (r1 : List Int) (r2 : List (List Int)) (w : World) (hr0_0 : Kd.C (Kd.int .i64) w A0_0 l0_0.length l0_0) (hc0_0 : l0_0.length ≤ c0_0) (hr0_1 : Kd.C (Kd.slice 2 (Kd.int .i64)) w A0_1 l0_1.length l0_1) (hc0_1 : l0_1.length ≤ c0_1) (h : impl_cloneWeb.f k l0_0 l0_1 = some (r1, r2)) :
  Calls Try.prog 111 #[.agg #[.slice A0_0 l0_0.length c0_0, .slice A0_1 l0_1.length c0_1]] w fun e w' => ∃ v0_ v1_ : Value, e = .returned (.agg #[v0_, v1_]) ∧ Kd.R (Kd.int .i64) 2 w' w.heap.size (fun _ => True) v0_ r1 ∧ Kd.S (Kd.slice 2 (Kd.int .i64)) 22 w' w.heap.size (fun k_ => some k_ ≠ (v0_ : Value).ownBlock) v1_ r2 ∧ Below w.heap.size w w' := by
 have hu28 := Try.underlying28
 have HR0_0 := Aside0.mk hr0_0
 have HC0_0 := Aside0.mk hc0_0
 clear hr0_0 hc0_0
 have HR0_1 := Aside0.mk hr0_1
 have HC0_1 := Aside0.mk hc0_1
 clear hr0_1 hc0_1
 have HB := Aside0.mk (Below.refl w.heap.size w)
 have H : ((slices_Clone_int64_int64.f l0_0).bind fun t1111003 => (impl_cloneWeb.l0 k l0_1 (l0_1.length : Int) 0 t1111003 ([] : List (List Int)))) = some (r1, r2) := h
 clear h
 replace H := Option.bind_eq_some_iff.mp H
 obtain ⟨t1111003, A20, H⟩ := H
 replace H : (impl_cloneWeb.l0 k l0_1 (l0_1.length : Int) 0 t1111003 ([] : List (List Int))) = some (r1, r2) := H
 have A2 := Aside0.mk A20
 clear A20
 have H' := Aside0.mk H
 clear H
 go_enter Try.func111, Try.ntmps111
 go_wp2_with (first | ((with_reducible refine gate_dst (N := 1) rfl ?_); refine box_event ?hg (N := 1) ?hd (cs := #[.slice A0_0 l0_0.length c0_0, .slice A0_1 l0_1.length c0_1]) (t := 28) ?hr ?_; (case hd => rfl); (case hg => rfl); (case hr => first | (go_simp; done) | (go_simp; rfl)); intro gb1111001 hg w3 hbox hb; have n0_ := Aside0.mk (below_step (by repeat (first | (with_reducible first | exact HB.out | apply below_alloc | apply pw_below_drewN | apply below_drew1) | exact HB.out)) hb); have n1_ := Aside0.mk (hbox); have n2_ := Aside0.mk ((by rw [hg]; exact (below_size (by repeat (first | (with_reducible first | exact HB.out | apply below_alloc | apply pw_below_drewN | apply below_drew1) | exact HB.out))) : w.heap.size ≤ gb1111001)); have n3_ := Aside0.mk ((by rw [hg]; exact (below_size (by repeat (first | (with_reducible first | exact HB.out | apply below_alloc | apply pw_below_drewN | apply below_drew1) | exact HB.out))) : w.heap.size ≤ gb1111001)); clear HB; have HB := n0_; have BK1111001 := n1_; have GW1111001 := n2_; have GE1111001 := n3_; clear n0_ n1_ n2_ n3_; clear hb hbox hg) | ((with_reducible refine gate_dst (N := 2) rfl ?_); refine box_event ?hg (N := 2) ?hd (cs := #[.slice none 0 0, .slice none 0 0]) (t := 28) ?hr ?_; (case hd => rfl); (case hg => rfl); (case hr => first | (go_simp; done) | (go_simp; rfl)); intro gb1111002 hg w4 hbox hb; have n0_ := Aside0.mk (blk_below (g := gb1111001) (o := .cells #[.slice A0_0 l0_0.length c0_0, .slice A0_1 l0_1.length c0_1] 28 (0, 0)) (by (with_reducible repeat (first | refine blk_drewN ?_ _ | refine blk_drew ?_ | refine blk_alloc ?_ _)); exact BK1111001.out) hb); have n1_ := Aside0.mk (below_step (by repeat (first | (with_reducible first | exact HB.out | apply below_alloc | apply pw_below_drewN | apply below_drew1 | refine below_set ?_ GE1111001.out) | exact HB.out)) hb); have n2_ := Aside0.mk (hbox); have n3_ := Aside0.mk ((by rw [hg]; exact (below_size (by repeat (first | (with_reducible first | exact HB.out | apply below_alloc | apply pw_below_drewN | apply below_drew1 | refine below_set ?_ GE1111001.out) | exact HB.out))) : w.heap.size ≤ gb1111002)); have n4_ := Aside0.mk ((by rw [hg]; exact (below_size (by repeat (first | (with_reducible first | exact HB.out | apply below_alloc | apply pw_below_drewN | apply below_drew1 | refine below_set ?_ GE1111001.out) | exact HB.out))) : w.heap.size ≤ gb1111002)); have n5_ := Aside0.mk ((by rw [hg]; exact Nat.ne_of_lt (blk_lt (g := gb1111001) (o := .cells #[.slice A0_0 l0_0.length c0_0, .slice A0_1 l0_1.length c0_1] 28 (0, 0)) (by (with_reducible repeat (first | refine blk_drewN ?_ _ | refine blk_drew ?_ | refine blk_alloc ?_ _)); exact BK1111001.out)) : gb1111001 ≠ gb1111002)); have n6_ := Aside0.mk ((by rw [hg]; exact Nat.ne_of_gt (blk_lt (g := gb1111001) (o := .cells #[.slice A0_0 l0_0.length c0_0, .slice A0_1 l0_1.length c0_1] 28 (0, 0)) (by (with_reducible repeat (first | refine blk_drewN ?_ _ | refine blk_drew ?_ | refine blk_alloc ?_ _)); exact BK1111001.out)) : gb1111002 ≠ gb1111001)); clear BK1111001; clear HB; have BK1111001 := n0_; have HB := n1_; have BK1111002 := n2_; have GW1111002 := n3_; have GE1111002 := n4_; have NB1111001_1111002 := n5_; have NB1111002_1111001 := n6_; clear n0_ n1_ n2_ n3_ n4_ n5_ n6_; clear hb hbox hg; have hnb5 := NB1111001_1111002.out; have hnc5 := NB1111002_1111001.out; have hcz6_0 : w4.cell? ⟨gb1111001, 0, none⟩ = some (.slice A0_0 l0_0.length c0_0) := (blk_cell BK1111001.out 0).trans rfl; have hcz6_1 : w4.cell? ⟨gb1111001, 1, none⟩ = some (.slice A0_1 l0_1.length c0_1) := (blk_cell BK1111001.out 1).trans rfl; have hfz6_0 := blk_frozen BK1111001.out 0; have hfz6_1 := blk_frozen BK1111001.out 1) | ((with_reducible refine gate_callee (f := 171) rfl ?_); refine goesL_ (some 8) rfl rfl Try.func171 (by kernel_rfl) rfl #[.slice A0_0 l0_0.length c0_0] rfl (by (try simp only [List.map_toArray, List.map_cons, List.map_nil]); first | done | rfl | (simp only [List.length_drop, List.length_take]; rfl)) ?_; (with_reducible refine (slices_Clone_int64_int64.calls _ _ l0_0 t1111003 _ ?side1 ?side2 A2.out).mono ?_); (case side1 => repeat (first | exact (Kd.C_below HR0_0.out HB.out) | (with_reducible refine Kd.C_alloc ?_ _) | (with_reducible refine Kd.C_drewN ?_ _) | (with_reducible refine Kd.C_drew ?_))); (case side2 => exact HC0_0.out); rintro e w7 ⟨v1111004, rfl, ho0, hb⟩; refine ⟨_, rfl, ?_⟩; have n0_ := Aside0.mk (Kd.R_lower ho0 (below_size (by repeat (first | (with_reducible first | exact HB.out | apply below_alloc | apply pw_below_drewN | apply below_drew1 | refine below_set ?_ GE1111001.out | refine below_set ?_ GE1111002.out) | exact HB.out)))); have n1_ := Aside0.mk (blk_below (g := gb1111001) (o := .cells #[.slice A0_0 l0_0.length c0_0, .slice A0_1 l0_1.length c0_1] 28 (0, 0)) (by (with_reducible repeat (first | refine blk_drewN ?_ _ | refine blk_drew ?_ | refine blk_alloc ?_ _)); exact BK1111001.out) hb); have n2_ := Aside0.mk (blk_below (g := gb1111002) (o := .cells #[.slice none 0 0, .slice none 0 0] 28 (0, 0)) (by (with_reducible repeat (first | refine blk_drewN ?_ _ | refine blk_drew ?_ | refine blk_alloc ?_ _)); exact BK1111002.out) hb); have n3_ := Aside0.mk (below_step (by repeat (first | (with_reducible first | exact HB.out | apply below_alloc | apply pw_below_drewN | apply below_drew1 | refine below_set ?_ GE1111001.out | refine below_set ?_ GE1111002.out) | exact HB.out)) hb); clear BK1111001; clear BK1111002; clear HB; have HO1111005 := n0_; have BK1111001 := n1_; have BK1111002 := n2_; have HB := n3_; clear n0_ n1_ n2_ n3_; (try clear hb); (try clear hb2); (try clear hk); (try clear hi); (try clear ho0); obtain ⟨Ao8, co8, eo8⟩ := Kd.R_slice HO1111005.out; subst eo8) | ((with_reducible refine gate_dst (N := 3) rfl ?_); refine box_event ?hg (N := 3) ?hd (cs := #[.slice none 0 0, .slice none 0 0]) (t := 28) ?hr ?_; (case hd => rfl); (case hg => rfl); (case hr => first | (go_simp; done) | (go_simp; rfl)); intro gb1111006 hg w9 hbox hb; have n0_ := Aside0.mk (Kd.R_below (by (with_reducible repeat (first | apply Kd.R_alloc | apply Kd.R_drewN | apply Kd.R_drew)); exact HO1111005.out) hb); have n1_ := Aside0.mk (blk_below (g := gb1111001) (o := .cells #[.slice A0_0 l0_0.length c0_0, .slice A0_1 l0_1.length c0_1] 28 (0, 0)) (by (with_reducible repeat (first | refine blk_drewN ?_ _ | refine blk_drew ?_ | refine blk_alloc ?_ _)); exact BK1111001.out) hb); have n2_ := Aside0.mk (blk_below (g := gb1111002) (o := .cells #[.slice none 0 0, .slice none 0 0] 28 (0, 0)) (by (with_reducible repeat (first | refine blk_drewN ?_ _ | refine blk_drew ?_ | refine blk_alloc ?_ _)); exact BK1111002.out) hb); have n3_ := Aside0.mk (below_step (by repeat (first | (with_reducible first | exact HB.out | apply below_alloc | apply pw_below_drewN | apply below_drew1 | refine below_set ?_ GE1111001.out | refine below_set ?_ GE1111002.out) | exact HB.out)) hb); have n4_ := Aside0.mk (hbox); have n5_ := Aside0.mk ((by rw [hg]; exact (below_size (by repeat (first | (with_reducible first | exact HB.out | apply below_alloc | apply pw_below_drewN | apply below_drew1 | refine below_set ?_ GE1111001.out | refine below_set ?_ GE1111002.out) | exact HB.out))) : w.heap.size ≤ gb1111006)); have n6_ := Aside0.mk ((by rw [hg]; exact (below_size (by repeat (first | (with_reducible first | exact HB.out | apply below_alloc | apply pw_below_drewN | apply below_drew1 | refine below_set ?_ GE1111001.out | refine below_set ?_ GE1111002.out) | exact HB.out))) : w.heap.size ≤ gb1111006)); have n7_ := Aside0.mk ((by rw [hg]; exact Nat.ne_of_lt (blk_lt (g := gb1111001) (o := .cells #[.slice A0_0 l0_0.length c0_0, .slice A0_1 l0_1.length c0_1] 28 (0, 0)) (by (with_reducible repeat (first | refine blk_drewN ?_ _ | refine blk_drew ?_ | refine blk_alloc ?_ _)); exact BK1111001.out)) : gb1111001 ≠ gb1111006)); have n8_ := Aside0.mk ((by rw [hg]; exact Nat.ne_of_gt (blk_lt (g := gb1111001) (o := .cells #[.slice A0_0 l0_0.length c0_0, .slice A0_1 l0_1.length c0_1] 28 (0, 0)) (by (with_reducible repeat (first | refine blk_drewN ?_ _ | refine blk_drew ?_ | refine blk_alloc ?_ _)); exact BK1111001.out)) : gb1111006 ≠ gb1111001)); have n9_ := Aside0.mk ((by rw [hg]; exact Nat.ne_of_lt (blk_lt (g := gb1111002) (o := .cells #[.slice none 0 0, .slice none 0 0] 28 (0, 0)) (by (with_reducible repeat (first | refine blk_drewN ?_ _ | refine blk_drew ?_ | refine blk_alloc ?_ _)); exact BK1111002.out)) : gb1111002 ≠ gb1111006)); have n10_ := Aside0.mk ((by rw [hg]; exact Nat.ne_of_gt (blk_lt (g := gb1111002) (o := .cells #[.slice none 0 0, .slice none 0 0] 28 (0, 0)) (by (with_reducible repeat (first | refine blk_drewN ?_ _ | refine blk_drew ?_ | refine blk_alloc ?_ _)); exact BK1111002.out)) : gb1111006 ≠ gb1111002)); clear HO1111005; clear BK1111001; clear BK1111002; clear HB; have HO1111005 := n0_; have BK1111001 := n1_; have BK1111002 := n2_; have HB := n3_; have BK1111006 := n4_; have GW1111006 := n5_; have GE1111006 := n6_; have NB1111001_1111006 := n7_; have NB1111006_1111001 := n8_; have NB1111002_1111006 := n9_; have NB1111006_1111002 := n10_; clear n0_ n1_ n2_ n3_ n4_ n5_ n6_ n7_ n8_ n9_ n10_; clear hb hbox hg; have hnb10 := NB1111006_1111001.out; have hnc10 := NB1111001_1111006.out; have hnb11 := NB1111006_1111002.out; have hnc11 := NB1111002_1111006.out; have hcz12_0 : w9.cell? ⟨gb1111006, 0, none⟩ = some (.slice none 0 0) := (blk_cell BK1111006.out 0).trans rfl; have hcz12_1 : w9.cell? ⟨gb1111006, 1, none⟩ = some (.slice none 0 0) := (blk_cell BK1111006.out 1).trans rfl; have hfz12_0 := blk_frozen BK1111006.out 0; have hfz12_1 := blk_frozen BK1111006.out 1; have hcz13_0 : w9.cell? ⟨gb1111001, 0, none⟩ = some (.slice A0_0 l0_0.length c0_0) := (blk_cell BK1111001.out 0).trans rfl; have hcz13_1 : w9.cell? ⟨gb1111001, 1, none⟩ = some (.slice A0_1 l0_1.length c0_1) := (blk_cell BK1111001.out 1).trans rfl; have hfz13_0 := blk_frozen BK1111001.out 0; have hfz13_1 := blk_frozen BK1111001.out 1))
 go_loopg [13] k (fun kq v13 w' => ∃ (x13_1 : Int) (x1111007001_1 : List (List Int)) (u1111007001 : Value), v13 = .int .i64 x13_1 ∧ Aside0 (impl_cloneWeb.l0 kq l0_1 (l0_1.length : Int) x13_1 t1111003 x1111007001_1 = some (r1, r2)) ∧ Aside0 (kq ≤ k) ∧ Aside0 (Kd.R (Kd.int .i64) 2 w' w.heap.size (fun _ => True) (.slice Ao8 t1111003.length co8) t1111003) ∧ Aside0 (Kd.S (Kd.slice 2 (Kd.int .i64)) 22 w' w.heap.size (fun k_ => some k_ ≠ ((.slice Ao8 t1111003.length co8) : Value).ownBlock) u1111007001 x1111007001_1) ∧ Aside0 (w'.heap[gb1111001]? = some (.cells #[(.slice A0_0 l0_0.length c0_0), (.slice A0_1 l0_1.length c0_1)] 28 (0, 0))) ∧ Aside0 (w'.heap[gb1111002]? = some (.cells #[(.slice none 0 0), (.slice none 0 0)] 28 (0, 0))) ∧ Aside0 (w'.heap[gb1111006]? = some (.cells #[(.slice Ao8 t1111003.length co8), u1111007001] 28 (0, 0))) ∧ Aside0 (Below w.heap.size w w'))
 case atStart => exact ⟨(0), (([] : List (List Int))), (.slice none 0 0), (by first | rfl | (simp; done) | (simp [*]; done)), H', ⟨Nat.le_refl _⟩, ⟨by (with_reducible repeat (first | apply Kd.R_alloc | apply Kd.R_drewN | apply Kd.R_drew)); exact Kd.R_mono (Kd.R_far (p := ⟨gb1111006, 1, none⟩) (Kd.R_far (p := ⟨gb1111006, 0, none⟩) (Kd.R_types HO1111005.out BK1111006.out (by decide)) (fun _ hk => hk.2) (.slice Ao8 t1111003.length co8)) (fun _ hk => hk.2) (.slice none 0 0)) (fun _ hk => trivial)⟩, ⟨by first | exact Kd.S_nil _ _ _ _ _ | exact Kd.N_nil _ _ _ _ _ | exact Kd.V_nil _ _ _ _ _ | exact Kd.Q_nil _ _ _ _ _ | exact Kd.R_nil _ _ _ _ _⟩, ⟨by (with_reducible repeat (first | refine blk_drewN ?_ _ | refine blk_drew ?_ | refine blk_alloc ?_ _)); refine blk_far ?_ NB1111001_1111006.out _; (with_reducible repeat (first | refine blk_drewN ?_ _ | refine blk_drew ?_ | refine blk_alloc ?_ _)); refine blk_far ?_ NB1111001_1111006.out _; (with_reducible repeat (first | refine blk_drewN ?_ _ | refine blk_drew ?_ | refine blk_alloc ?_ _)); exact BK1111001.out⟩, ⟨by (with_reducible repeat (first | refine blk_drewN ?_ _ | refine blk_drew ?_ | refine blk_alloc ?_ _)); refine blk_far ?_ NB1111002_1111006.out _; (with_reducible repeat (first | refine blk_drewN ?_ _ | refine blk_drew ?_ | refine blk_alloc ?_ _)); refine blk_far ?_ NB1111002_1111006.out _; (with_reducible repeat (first | refine blk_drewN ?_ _ | refine blk_drew ?_ | refine blk_alloc ?_ _)); exact BK1111002.out⟩, ⟨by (with_reducible repeat (first | refine blk_drewN ?_ _ | refine blk_drew ?_ | refine blk_alloc ?_ _)); refine blk_put (cs := #[.slice Ao8 t1111003.length co8, .slice none 0 0]) ?_ 1 _ rfl; (with_reducible repeat (first | refine blk_drewN ?_ _ | refine blk_drew ?_ | refine blk_alloc ?_ _)); refine blk_put (cs := #[.slice none 0 0, .slice none 0 0]) ?_ 0 _ rfl; (with_reducible repeat (first | refine blk_drewN ?_ _ | refine blk_drew ?_ | refine blk_alloc ?_ _)); exact BK1111006.out⟩, ⟨by repeat (first | (with_reducible first | exact HB.out | apply below_alloc | apply pw_below_drewN | apply below_drew1 | refine below_set ?_ GE1111001.out | refine below_set ?_ GE1111002.out | refine below_set ?_ GE1111006.out) | exact HB.out)⟩⟩
 case round =>
  clear H'
  try clear c1
  try clear p2
  try clear c5
  try clear c10
  try clear c11
  try clear hcz12_0
  try clear hcz12_1
  try clear hcz13_0
  try clear hcz13_1
  try clear hcz6_0
  try clear hcz6_1
  try clear hfz12_0
  try clear hfz12_1
  try clear hfz13_0
  try clear hfz13_1
  try clear hfz6_0
  try clear hfz6_1
  obtain ⟨x13_1, x1111007001_1, u1111007001, rfl, HA, HK1, HO_1111007000, HO_1111007001, BK1111001, BK1111002, BK1111006, HB⟩ := hrel
  cases gk with
  | zero => exact absurd HA.out (by simp [impl_cloneWeb.l0])
  | succ k1 =>
   have H := HA.out
   clear HA
   simp only [impl_cloneWeb.l0] at H
   by_cases c14 : x13_1 < (l0_1.length : Int)
   ·rw [if_pos c14] at H
    have c14b0 : decide (x13_1 < (l0_1.length : Int)) = true := decide_eq_true c14
    clear c14
    by_cases c15 : 0 ≤ x13_1
    ·rw [if_pos c15] at H
     have c15b0 : decide (0 ≤ x13_1) = true := decide_eq_true c15
     clear c15
     by_cases c16 : x13_1 < (l0_1.length : Int)
     ·rw [if_pos c16] at H
      have c16b0 : decide (x13_1 < (l0_1.length : Int)) = true := decide_eq_true c16
      clear c16
      replace H := Option.bind_eq_some_iff.mp H
      obtain ⟨t1111008, A170, H⟩ := H
      replace H : (if x1111007001_1.length < 5864062014805 then (impl_cloneWeb.l0 k1 l0_1 (l0_1.length : Int) (wrap64 (x13_1 + 1)) t1111003 (x1111007001_1 ++ [t1111008])) else (none)) = some (r1, r2) := H
      have A17 := Aside0.mk A170
      clear A170
      by_cases c18 : x1111007001_1.length < 5864062014805
      ·rw [if_pos c18] at H
       have LMc18 := Aside0.mk c18
       clear c18
       obtain ⟨y1111011, hy1111011⟩ : ∃ y_ : List (List Int), y_ = (x1111007001_1 ++ [t1111008]) := ⟨_, rfl⟩
       replace H : (impl_cloneWeb.l0 k1 l0_1 (l0_1.length : Int) (wrap64 (x13_1 + 1)) t1111003 y1111011) = some (r1, r2) := by first | (rw [hy1111011]; with_reducible exact H) | (have H2_ := (Option.bind_some _ _).symm.trans H; rw [hy1111011]; with_reducible exact H2_) | (have H2_ := (Option.bind_some _ _).symm.trans H; with_reducible exact H2_) | with_reducible exact H | (rw [hy1111011]; exact H) | exact H
       have Ny1111011 := Aside0.mk hy1111011
       clear hy1111011
       have H' := Aside0.mk H
       clear H
       have p1111007 : 0 ≤ (x13_1 : Int) := of_decide_eq_true (by first | (with_reducible assumption) | assumption)
       have q1111007 : x13_1 < (l0_1.length : Int) := of_decide_eq_true (by first | (with_reducible assumption) | assumption)
       obtain ⟨ad1111007, A1111007_0, c1111007_0, e1111007, hx1111007_0, hl1111007_0, hi1111007_0⟩ := at_L1 HR0_1.out x13_1 p1111007 q1111007
       cases e1111007
       replace hx1111007_0 := (HB.out.cell (World.block_lt_of_cell? w _ hx1111007_0)).trans hx1111007_0
       have HR1111007_0 := Aside0.mk hi1111007_0
       have HC1111007_0 := Aside0.mk hl1111007_0
       clear hi1111007_0 hl1111007_0
       replace p1111007 := eq_true p1111007
       replace q1111007 := eq_true q1111007
       try go_wp2
       have n0_ := Aside0.mk (Kd.R_drew HO_1111007000.out)
       have n1_ := Aside0.mk (Kd.S_drew HO_1111007001.out)
       have n2_ := Aside0.mk (blk_drew BK1111001.out)
       have n3_ := Aside0.mk (blk_drew BK1111002.out)
       have n4_ := Aside0.mk (blk_drew BK1111006.out)
       have n5_ := Aside0.mk (below_drew1 HB.out)
       clear HO_1111007000
       clear HO_1111007001
       clear BK1111001
       clear BK1111002
       clear BK1111006
       clear HB
       have HO_1111007000 := n0_
       have HO_1111007001 := n1_
       have BK1111001 := n2_
       have BK1111002 := n3_
       have BK1111006 := n4_
       have HB := n5_
       clear n0_ n1_ n2_ n3_ n4_ n5_
       refine start_ (n := 8) (S := fun w' => w'.cell? ⟨gb1111006, 0, none⟩ = some (.slice Ao8 t1111003.length co8) ∧ w'.cell? ⟨gb1111006, 1, none⟩ = some (u1111007001)) (ds := [7]) #[false, false, false, false, false, false, false, false] (by kernel_rfl) rfl rfl ⟨(blk_cell BK1111006.out 0).trans rfl, (blk_cell BK1111006.out 1).trans rfl⟩ (fun hHeld => ?_); refine with_tabW impl_cloneWeb.tab5 impl_cloneWeb.bits5 (fun HT_ HW_ => ?_)
       generalize wr.drew = w19 at HO_1111007000 HO_1111007001 BK1111001 BK1111002 BK1111006 HB hHeld ⊢
       refine pure_ (i := 0) (N := some 17) (v := ?_) (a' := ?_) #[true, false, false, false, false, false, false, false] rfl rfl (any_of HT_.out (by kernel_rfl)) (fun _ _ _ h => h) (Or.inl ⟨by rfl, ?_⟩) ?_ ?_
       rotate_left
       ·intro w'
        go_simp
        with_reducible rfl
       rotate_left
       ·simp only [Act.put, List.setIfInBounds_toArray, List.set_cons_zero, List.set_cons_succ, i64_w, i32_w]
        rfl
       refine pure_ (i := 2) (N := some 19) (v := ?_) (a' := ?_) #[true, false, true, false, false, false, false, false] rfl rfl (any_of HT_.out (by kernel_rfl)) (fun _ _ _ h => h) (Or.inl ⟨by rfl, ?_⟩) ?_ ?_
       rotate_left
       ·intro w'
        go_simp
        with_reducible rfl
       rotate_left
       ·simp only [Act.put, List.setIfInBounds_toArray, List.set_cons_zero, List.set_cons_succ, i64_w, i32_w]
        rfl
       refine take_ (i := 1) (N := some 18) (v := ?_) (a' := ?_) #[true, true, true, false, false, false, false, false] rfl rfl (take_ofW HT_.out HW_.out (by kernel_rfl)) (fun _ _ _ h => h) (Or.inl ⟨by rfl, ?_⟩) hHeld ?_ ?_
       rotate_left
       ·rintro w' ⟨s0, s1⟩
        go_simp
        with_reducible rfl
       rotate_left
       ·simp only [Act.put, List.setIfInBounds_toArray, List.set_cons_zero, List.set_cons_succ, i64_w, i32_w]
        rfl
       refine one_ (i := 3) (N := some 20) #[true, true, true, true, false, false, false, false] rfl rfl (one_of HT_.out (by kernel_rfl)) (by decide) (fun K hK => ?_)
       refine goes_ Try.func171 (by kernel_rfl) rfl #[.slice A1111007_0 (rd_L1 l0_1 x13_1).length c1111007_0] (by rfl) rfl rfl (by (try simp only [List.map_toArray, List.map_cons, List.map_nil]); first | done | rfl | (simp only [List.length_drop, List.length_take]; rfl)) ?_
       with_reducible refine (slices_Clone_int64_int64.calls _ _ (rd_L1 l0_1 x13_1) t1111008 _ ?side1 ?side2 A17.out).mono ?_
       (case side1 => repeat (first | exact (Kd.C_below HR1111007_0.out HB.out) | (with_reducible refine Kd.C_alloc ?_ _) | (with_reducible refine Kd.C_drewN ?_ _) | (with_reducible refine Kd.C_drew ?_)))
       (case side2 => exact HC1111007_0.out)
       rintro e w20 ⟨v1111009, rfl, ho0, hb⟩
       refine ⟨_, rfl, ?_⟩
       have n0_ := Aside0.mk (Kd.R_elder' (by (with_reducible repeat (first | apply Kd.R_alloc | apply Kd.R_drewN | apply Kd.R_drew)); exact HO_1111007000.out) (Kd.R_base ho0) hb)
       have n1_ := Aside0.mk (Kd.S_elder' (by (with_reducible repeat (first | apply Kd.S_alloc | apply Kd.S_drewN | apply Kd.S_drew)); exact HO_1111007001.out) (Kd.R_base ho0) hb)
       have n2_ := Aside0.mk (Kd.R_lower (Kd.R_new' ho0 (Kd.R_lt (by (with_reducible repeat (first | apply Kd.R_alloc | apply Kd.R_drewN | apply Kd.R_drew)); exact HO_1111007000.out))) (below_size (by repeat (first | (with_reducible first | exact HB.out | apply below_alloc | apply pw_below_drewN | apply below_drew1 | refine below_set ?_ GE1111001.out | refine below_set ?_ GE1111002.out | refine below_set ?_ GE1111006.out) | exact HB.out))))
       have n3_ := Aside0.mk (blk_below (g := gb1111001) (o := .cells #[.slice A0_0 l0_0.length c0_0, .slice (some ad1111007) l0_1.length c0_1] 28 (0, 0)) (by (with_reducible repeat (first | refine blk_drewN ?_ _ | refine blk_drew ?_ | refine blk_alloc ?_ _)); exact BK1111001.out) hb)
       have n4_ := Aside0.mk (blk_below (g := gb1111002) (o := .cells #[.slice none 0 0, .slice none 0 0] 28 (0, 0)) (by (with_reducible repeat (first | refine blk_drewN ?_ _ | refine blk_drew ?_ | refine blk_alloc ?_ _)); exact BK1111002.out) hb)
       have n5_ := Aside0.mk (blk_below (g := gb1111006) (o := .cells #[.slice Ao8 t1111003.length co8, u1111007001] 28 (0, 0)) (by (with_reducible repeat (first | refine blk_drewN ?_ _ | refine blk_drew ?_ | refine blk_alloc ?_ _)); exact BK1111006.out) hb)
       have n6_ := Aside0.mk (below_step (by repeat (first | (with_reducible first | exact HB.out | apply below_alloc | apply pw_below_drewN | apply below_drew1 | refine below_set ?_ GE1111001.out | refine below_set ?_ GE1111002.out | refine below_set ?_ GE1111006.out) | exact HB.out)) hb)
       clear HO_1111007000
       clear HO_1111007001
       clear BK1111001
       clear BK1111002
       clear BK1111006
       clear HB
       have HO_1111007000 := n0_
       have HO_1111007001 := n1_
       have HO1111010 := n2_
       have BK1111001 := n3_
       have BK1111002 := n4_
       have BK1111006 := n5_
       have HB := n6_
       clear n0_ n1_ n2_ n3_ n4_ n5_ n6_
       (try clear hb)
       (try clear hb2)
       (try clear hk)
       (try clear hi)
       (try clear ho0)
       obtain ⟨Ao22, co22, eo22⟩ := Kd.R_slice HO1111010.out
       (first | subst eo22 | (injection eo22 with f1_ f2_ f3_; have f4_ := f1_.symm; have f5_ := f3_.symm; clear f1_ f2_ f3_; subst f4_; subst f5_))
       refine hK.out _ _ ⟨(blk_cell BK1111006.out 0).trans rfl, (blk_cell BK1111006.out 1).trans rfl⟩ (fun hHeld => ?_)
       clear hK K
       refine norm_ (a' := ?_) ?_ ?_
       rotate_left
       ·show Act.put _ (some 20) _ = _
        simp only [Act.put, List.setIfInBounds_toArray, List.set_cons_zero, List.set_cons_succ, i64_w, i32_w]
        rfl
       refine one_ (i := 4) (N := some 21) #[true, true, true, true, true, false, false, false] rfl rfl (one_of HT_.out (by kernel_rfl)) (by decide) (fun K hK => ?_)
       refine value_ (w1 := ?_) (v := ?_) (by rfl) rfl ?_ ?_
       rotate_left 2
       ·go_simp
        constructor
        ·rfl
        ·rfl
       refine hK.out _ _ ⟨(blk_cell (blk_alloc BK1111006.out _) 0).trans rfl, (blk_cell (blk_alloc BK1111006.out _) 1).trans rfl⟩ (fun hHeld => ?_)
       clear hK K
       refine norm_ (a' := ?_) ?_ ?_
       rotate_left
       ·show Act.put _ (some 21) _ = _
        simp only [Act.put, List.setIfInBounds_toArray, List.set_cons_zero, List.set_cons_succ, i64_w, i32_w]
        rfl
       refine one_ (i := 5) (N := some 22) #[true, true, true, true, true, true, false, false] rfl rfl (one_of HT_.out (by kernel_rfl)) (by decide) (fun K hK => ?_)
       refine Kd.S_append_step (Kd.slice 2 (Kd.int .i64)) (w0 := w) w.heap.size (by rfl) (.tmp 18) (.tmp 21) 23 22 (.slice none 0 0) 24 rfl Try.underlying23 info22 rfl (by decide) (by omega) u1111007001 x1111007001_1 t1111008 [.slice Ao22 t1111008.length co22] (fun k_ => some k_ ≠ (.slice Ao8 t1111003.length co8 : Value).ownBlock) (fun k_ => some k_ = (.slice Ao22 t1111008.length co22 : Value).ownBlock) rfl rfl ?aP (fun k_ hk_ => ((Kd.R_mono (ok' := fun k_ => ((fun k_ => some k_ ≠ (.slice Ao8 t1111003.length co8 : Value).ownBlock)) k_ ∧ some k_ ≠ (u1111007001 : Value).ownBlock) (Kd.R_apart' (HO1111010.out) (Kd.S_typed HO_1111007001.out) (by decide)) (fun k_ hk => ⟨hk.1.2, hk.2⟩))).1 k_ hk_.symm) ?aF ?aO ?aB ?aS ?aL ?_
       (case aP => exact Kd.M_row (Kd.R_mono (Kd.R_tight rfl (Kd.R_mono (ok' := fun k_ => ((fun k_ => some k_ ≠ (.slice Ao8 t1111003.length co8 : Value).ownBlock)) k_ ∧ some k_ ≠ (u1111007001 : Value).ownBlock) (Kd.R_apart' (HO1111010.out) (Kd.S_typed HO_1111007001.out) (by decide)) (fun k_ hk => ⟨hk.1.2, hk.2⟩))) (fun _ h_ => h_)))
       (case aB => exact (by repeat (first | (with_reducible first | exact HB.out | apply below_alloc | apply pw_below_drewN | apply below_drew1 | refine below_set ?_ GE1111001.out | refine below_set ?_ GE1111002.out | refine below_set ?_ GE1111006.out) | exact HB.out)))
       (case aF => exact (fun k_ hk => Kd.fresh' (Kd.R_lt (by (with_reducible repeat (first | apply Kd.R_alloc | apply Kd.R_drewN | apply Kd.R_drew)); exact HO_1111007000.out)) k_ hk))
       (case aO => exact (by (with_reducible repeat (first | apply Kd.S_alloc | apply Kd.S_drewN | apply Kd.S_drew)); exact Kd.S_mono HO_1111007001.out (fun k_ hk => ⟨hk.1, fun e_ => hk.2 e_⟩)))
       (case aS => exact (below_size (by repeat (first | (with_reducible first | exact HB.out | apply below_alloc | apply pw_below_drewN | apply below_drew1 | refine below_set ?_ GE1111001.out | refine below_set ?_ GE1111002.out | refine below_set ?_ GE1111006.out) | exact HB.out))))
       (case aL => have := LMc18.out; omega)
       intro v1111012 w21 ho hb hg hat
       rw [← Ny1111011.out] at ho
       have n0_ := Aside0.mk (Kd.R_over' (by (with_reducible repeat (first | apply Kd.R_alloc | apply Kd.R_drewN | apply Kd.R_drew)); exact HO_1111007000.out) (Kd.S_typed (by (with_reducible repeat (first | apply Kd.S_alloc | apply Kd.S_drewN | apply Kd.S_drew)); exact HO_1111007001.out)) (by decide) hg)
       have n1_ := Aside0.mk (blk_grown (g := gb1111001) (o := .cells #[.slice A0_0 l0_0.length c0_0, .slice (some ad1111007) l0_1.length c0_1] 28 (0, 0)) (by (with_reducible repeat (first | refine blk_drewN ?_ _ | refine blk_drew ?_ | refine blk_alloc ?_ _)); exact BK1111001.out) hg (Kd.S_ne HO_1111007001.out BK1111001.out (by decide)))
       have n2_ := Aside0.mk (blk_grown (g := gb1111002) (o := .cells #[.slice none 0 0, .slice none 0 0] 28 (0, 0)) (by (with_reducible repeat (first | refine blk_drewN ?_ _ | refine blk_drew ?_ | refine blk_alloc ?_ _)); exact BK1111002.out) hg (Kd.S_ne HO_1111007001.out BK1111002.out (by decide)))
       have n3_ := Aside0.mk (blk_grown (g := gb1111006) (o := .cells #[.slice Ao8 t1111003.length co8, u1111007001] 28 (0, 0)) (by (with_reducible repeat (first | refine blk_drewN ?_ _ | refine blk_drew ?_ | refine blk_alloc ?_ _)); exact BK1111006.out) hg (Kd.S_ne HO_1111007001.out BK1111006.out (by decide)))
       have n4_ := Aside0.mk (hb)
       have n5_ := Aside0.mk (ho)
       clear HO_1111007000
       clear BK1111001
       clear BK1111002
       clear BK1111006
       clear HB
       clear HO_1111007001
       clear HO1111010
       have HO_1111007000 := n0_
       have BK1111001 := n1_
       have BK1111002 := n2_
       have BK1111006 := n3_
       have HB := n4_
       have HO1111013 := n5_
       clear n0_ n1_ n2_ n3_ n4_ n5_
       clear ho hb hg hat
       obtain ⟨Ao23, co23, eo23⟩ := Kd.S_slice HO1111013.out
       (first | subst eo23 | (injection eo23 with f1_ f2_ f3_; have f4_ := f1_.symm; have f5_ := f3_.symm; clear f1_ f2_ f3_; subst f4_; subst f5_))
       refine hK.out _ _ ⟨(blk_cell BK1111006.out 0).trans rfl, (blk_cell BK1111006.out 1).trans rfl⟩ (fun hHeld => ?_)
       clear hK K
       refine norm_ (a' := ?_) ?_ ?_
       rotate_left
       ·show Act.put _ (some 22) _ = _
        simp only [Act.put, List.setIfInBounds_toArray, List.set_cons_zero, List.set_cons_succ, i64_w, i32_w]
        rfl
       refine pure_ (i := 6) (N := some 23) (v := ?_) (a' := ?_) #[true, true, true, true, true, true, true, false] rfl rfl (any_of HT_.out (by kernel_rfl)) (fun _ _ _ h => h) (Or.inl ⟨by rfl, ?_⟩) ?_ ?_
       rotate_left
       ·intro w'
        go_simp
        with_reducible rfl
       rotate_left
       ·simp only [Act.put, List.setIfInBounds_toArray, List.set_cons_zero, List.set_cons_succ, i64_w, i32_w]
        rfl
       refine last_ (i := 7) (N := none) #[true, true, true, true, true, true, true, true] rfl rfl (one_of HT_.out (by kernel_rfl)) (by decide) (fun K hK => ?_)
       have hs24 : w21.cell? ⟨gb1111006, 1, none⟩ = some (u1111007001) := (blk_cell BK1111006.out 1).trans rfl
       have hfs24 := blk_frozen BK1111006.out 1
       have hns24_0 := NB1111001_1111006.out
       have hns24_1 := NB1111002_1111006.out
       have hms24_0 := NB1111006_1111001.out
       have hms24_1 := NB1111006_1111002.out
       refine skip_ (w1 := ?_) (by rfl) rfl ?_ ?_
       rotate_left
       ·go_simp
        rfl
       refine hK.out _ _ ?_
       clear hK K
       refine done_ (done_of HT_.out (by kernel_rfl)) ?_
       try go_wp2
       go_roundg k1
       case measure => have := HK1.out; omega
       case rel => exact ⟨(wrap64 (x13_1 + 1)), (y1111011), (.slice Ao23 y1111011.length co23), (by first | rfl | (simp; done) | (simp [*]; done)), H', ⟨by have := HK1.out; omega⟩, ⟨by (with_reducible repeat (first | apply Kd.R_alloc | apply Kd.R_drewN | apply Kd.R_drew)); exact Kd.R_mono (Kd.R_far (p := ⟨gb1111006, 1, none⟩) (Kd.R_types HO_1111007000.out BK1111006.out (by decide)) (fun _ hk => hk.2) (.slice Ao23 y1111011.length co23)) (fun _ hk => trivial)⟩, ⟨by (with_reducible repeat (first | apply Kd.S_alloc | apply Kd.S_drewN | apply Kd.S_drew)); exact Kd.S_mono (Kd.S_far (p := ⟨gb1111006, 1, none⟩) (Kd.S_types HO1111013.out BK1111006.out (by decide)) (fun _ hk => hk.2) (.slice Ao23 y1111011.length co23)) (fun _ hk => hk.1)⟩, ⟨by (with_reducible repeat (first | refine blk_drewN ?_ _ | refine blk_drew ?_ | refine blk_alloc ?_ _)); refine blk_far ?_ NB1111001_1111006.out _; (with_reducible repeat (first | refine blk_drewN ?_ _ | refine blk_drew ?_ | refine blk_alloc ?_ _)); exact BK1111001.out⟩, ⟨by (with_reducible repeat (first | refine blk_drewN ?_ _ | refine blk_drew ?_ | refine blk_alloc ?_ _)); refine blk_far ?_ NB1111002_1111006.out _; (with_reducible repeat (first | refine blk_drewN ?_ _ | refine blk_drew ?_ | refine blk_alloc ?_ _)); exact BK1111002.out⟩, ⟨by (with_reducible repeat (first | refine blk_drewN ?_ _ | refine blk_drew ?_ | refine blk_alloc ?_ _)); refine blk_put (cs := #[.slice Ao8 t1111003.length co8, u1111007001]) ?_ 1 _ rfl; (with_reducible repeat (first | refine blk_drewN ?_ _ | refine blk_drew ?_ | refine blk_alloc ?_ _)); exact BK1111006.out⟩, ⟨by repeat (first | (with_reducible first | exact HB.out | apply below_alloc | apply pw_below_drewN | apply below_drew1 | refine below_set ?_ GE1111001.out | refine below_set ?_ GE1111002.out | refine below_set ?_ GE1111006.out) | exact HB.out)⟩⟩
      ·rw [if_neg c18] at H
       exact absurd H (by simp)
     ·rw [if_neg c16] at H
      exact absurd H (by simp)
    ·rw [if_neg c15] at H
     exact absurd H (by simp)
   ·rw [if_neg c14] at H
    have c14b0 : decide (x13_1 < (l0_1.length : Int)) = false := decide_eq_false c14
    clear c14
    simp only [Option.some.injEq, Prod.mk.injEq] at H
    obtain ⟨rfl, rfl⟩ := H
    have hnb25 := NB1111006_1111001.out
    have hnc25 := NB1111001_1111006.out
    have hnb26 := NB1111006_1111002.out
    have hnc26 := NB1111002_1111006.out
    have hcz27_0 : wr.cell? ⟨gb1111006, 0, none⟩ = some (.slice Ao8 t1111003.length co8) := (blk_cell BK1111006.out 0).trans rfl
    have hcz27_1 : wr.cell? ⟨gb1111006, 1, none⟩ = some (u1111007001) := (blk_cell BK1111006.out 1).trans rfl
    have hfz27_0 := blk_frozen BK1111006.out 0
    have hfz27_1 := blk_frozen BK1111006.out 1
    have hnb28 := NB1111002_1111001.out
    have hnc28 := NB1111001_1111002.out
    have hcz29_0 : wr.cell? ⟨gb1111002, 0, none⟩ = some (.slice none 0 0) := (blk_cell BK1111002.out 0).trans rfl
    have hcz29_1 : wr.cell? ⟨gb1111002, 1, none⟩ = some (.slice none 0 0) := (blk_cell BK1111002.out 1).trans rfl
    have hfz29_0 := blk_frozen BK1111002.out 0
    have hfz29_1 := blk_frozen BK1111002.out 1
    obtain ⟨Ao30, co30, eo30⟩ := Kd.S_slice HO_1111007001.out
    subst eo30
    go_wp2
    refine bodyPost_ret (results_cell_row rfl _ _ gb1111002 28 #[.slice Ao8 t1111003.length co8, .slice Ao30 x1111007001_1.length co30] (0, 0) _ rfl (by (with_reducible repeat (first | refine blk_drewN ?_ _ | refine blk_drew ?_ | refine blk_alloc ?_ _)); refine blk_put (cs := #[.slice Ao8 t1111003.length co8, .slice none 0 0]) ?_ 1 _ rfl; (with_reducible repeat (first | refine blk_drewN ?_ _ | refine blk_drew ?_ | refine blk_alloc ?_ _)); refine blk_put (cs := #[.slice none 0 0, .slice none 0 0]) ?_ 0 _ rfl; (with_reducible repeat (first | refine blk_drewN ?_ _ | refine blk_drew ?_ | refine blk_alloc ?_ _)); exact BK1111002.out) Try.underlying28 rfl (by kernel_rfl)) rfl ?_
    exact ⟨_, _, by first | rfl | (simp [errW_none, errW_some] <;> rfl) | (simp [*, errW_none, errW_some] <;> rfl), by (with_reducible repeat (first | apply Kd.R_alloc | apply Kd.R_drewN | apply Kd.R_drew)); exact Kd.R_mono (Kd.R_far (p := ⟨gb1111002, 1, none⟩) (Kd.R_far (p := ⟨gb1111002, 0, none⟩) (Kd.R_types HO_1111007000.out BK1111002.out (by decide)) (fun _ hk => hk.2) (.slice Ao8 t1111003.length co8)) (fun _ hk => hk.2) (.slice Ao30 x1111007001_1.length co30)) (fun _ hk => trivial), by (with_reducible repeat (first | apply Kd.S_alloc | apply Kd.S_drewN | apply Kd.S_drew)); exact Kd.S_mono (Kd.S_far (p := ⟨gb1111002, 1, none⟩) (Kd.S_far (p := ⟨gb1111002, 0, none⟩) (Kd.S_types HO_1111007001.out BK1111002.out (by decide)) (fun _ hk => hk.2) (.slice Ao8 t1111003.length co8)) (fun _ hk => hk.2) (.slice Ao30 x1111007001_1.length co30)) (fun _ hk => hk.1), by repeat (first | (with_reducible first | exact HB.out | apply below_alloc | apply pw_below_drewN | apply below_drew1 | refine below_set ?_ GE1111001.out | refine below_set ?_ GE1111002.out | refine below_set ?_ GE1111006.out) | exact HB.out)⟩
end Go.Proofs.Ytnlhhbnoccobmaa.F
end
section
namespace Go.Proofs.Ytnlhhbnoccobmaa.F
open Go.RowKit Go.Proofs.YtnlhhbnoccobmaaW.PrintWords Go.Proofs.YtnlhhbnoccobmaaW.PrintLast Go.Proofs.YtnlhhbnoccobmaaW.PrintMore
attribute [local go_sem] max2_int min2_int max_two min_two max_three min_three max_four min_four   
set_option linter.unusedVariables false
set_option linter.unusedSimpArgs false
def impl_legsFault.f (l0_0 : List Int) (l0_1 : List (List Int)) (a1 : Int) : Option (Int) := (impl_IsWeb.f l0_0 l0_1).bind fun t1231002 => (if t1231002 = true then ((impl_in.f a1 0 (wrap64 ((l0_0.length : Int) - 2))).bind fun t1231003 => (if t1231003 = true then (some 0) else (some 2))) else (some 1))
set_option maxHeartbeats 8000000 in
set_option maxRecDepth 100000 in
theorem impl_legsFault.calls (A0_0 : Option Addr) (c0_0 : Nat) (l0_0 : List Int) (A0_1 : Option Addr) (c0_1 : Nat) (l0_1 : List (List Int)) (a1 : Int) (r : Int) (w : World) (hr0_0 : Kd.C (Kd.int .i64) w A0_0 l0_0.length l0_0) (hc0_0 : l0_0.length ≤ c0_0) (hr0_1 : Kd.C (Kd.slice 2 (Kd.int .i64)) w A0_1 l0_1.length l0_1) (hc0_1 : l0_1.length ≤ c0_1) (h : impl_legsFault.f l0_0 l0_1 a1 = some r) :
  Calls Try.prog 123 #[.agg #[.slice A0_0 l0_0.length c0_0, .slice A0_1 l0_1.length c0_1], .int .i64 a1] w fun e w' => e = .returned (.int .i64 r) ∧ Below w.heap.size w w' := by
 have hu28 := Try.underlying28
 have HR0_0 := Aside0.mk hr0_0
 have HC0_0 := Aside0.mk hc0_0
 clear hr0_0 hc0_0
 have HR0_1 := Aside0.mk hr0_1
 have HC0_1 := Aside0.mk hc0_1
 clear hr0_1 hc0_1
 have HB := Aside0.mk (Below.refl w.heap.size w)
 have H : ((impl_IsWeb.f l0_0 l0_1).bind fun t1231002 => (if t1231002 = true then ((impl_in.f a1 0 (wrap64 ((l0_0.length : Int) - 2))).bind fun t1231003 => (if t1231003 = true then (some 0) else (some 2))) else (some 1))) = some r := h
 clear h
 replace H := Option.bind_eq_some_iff.mp H
 obtain ⟨t1231002, A30, H⟩ := H
 replace H : (if t1231002 = true then ((impl_in.f a1 0 (wrap64 ((l0_0.length : Int) - 2))).bind fun t1231003 => (if t1231003 = true then (some 0) else (some 2))) else (some 1)) = some r := H
 have A3 := Aside0.mk A30
 clear A30
 by_cases c4 : t1231002 = true
 ·subst c4
  have H1 : ((impl_in.f a1 0 (wrap64 ((l0_0.length : Int) - 2))).bind fun t1231003 => (if t1231003 = true then (some 0) else (some 2))) = some r := by rw [if_pos rfl] at H; exact H
  clear H
  have H := H1
  clear H1
  replace H := Option.bind_eq_some_iff.mp H
  obtain ⟨t1231003, A50, H⟩ := H
  replace H : (if t1231003 = true then (some 0) else (some 2)) = some r := H
  have A5 := Aside0.mk A50
  clear A50
  by_cases c6 : t1231003 = true
  ·subst c6
   have H1 : (some 0) = some r := by rw [if_pos rfl] at H; exact H
   clear H
   have H := H1
   clear H1
   obtain rfl := Option.some.inj H
   go_enter Try.func123, Try.ntmps123
   go_wp2_with (first | ((with_reducible refine gate_dst (N := 2) rfl ?_); refine box_event ?hg (N := 2) ?hd (cs := #[.slice A0_0 l0_0.length c0_0, .slice A0_1 l0_1.length c0_1]) (t := 28) ?hr ?_; (case hd => rfl); (case hg => rfl); (case hr => first | (go_simp; done) | (go_simp; rfl)); intro gb1231001 hg w7 hbox hb; have n0_ := Aside0.mk (below_step (by repeat (first | (with_reducible first | exact HB.out | apply below_alloc | apply pw_below_drewN | apply below_drew1) | exact HB.out)) hb); have n1_ := Aside0.mk (hbox); have n2_ := Aside0.mk ((by rw [hg]; exact (below_size (by repeat (first | (with_reducible first | exact HB.out | apply below_alloc | apply pw_below_drewN | apply below_drew1) | exact HB.out))) : w.heap.size ≤ gb1231001)); have n3_ := Aside0.mk ((by rw [hg]; exact (below_size (by repeat (first | (with_reducible first | exact HB.out | apply below_alloc | apply pw_below_drewN | apply below_drew1) | exact HB.out))) : w.heap.size ≤ gb1231001)); clear HB; have HB := n0_; have BK1231001 := n1_; have GW1231001 := n2_; have GE1231001 := n3_; clear n0_ n1_ n2_ n3_; clear hb hbox hg; have hcz8_0 : w7.cell? ⟨gb1231001, 0, none⟩ = some (.slice A0_0 l0_0.length c0_0) := (blk_cell BK1231001.out 0).trans rfl; have hcz8_1 : w7.cell? ⟨gb1231001, 1, none⟩ = some (.slice A0_1 l0_1.length c0_1) := (blk_cell BK1231001.out 1).trans rfl; have hfz8_0 := blk_frozen BK1231001.out 0; have hfz8_1 := blk_frozen BK1231001.out 1) | ((with_reducible refine gate_callee (f := 21) rfl ?_); refine goesL_ (some 7) rfl rfl Try.func21 (by kernel_rfl) rfl #[.agg #[.slice A0_0 l0_0.length c0_0, .slice A0_1 l0_1.length c0_1]] rfl (by (try simp only [List.map_toArray, List.map_cons, List.map_nil]); first | done | rfl | (simp only [List.length_drop, List.length_take]; rfl)) ?_; (with_reducible refine (impl_IsWeb.calls _ _ l0_0 _ _ l0_1 true _ ?side1 ?side2 ?side3 ?side4 A3.out).mono ?_); (case side1 => repeat (first | exact (Kd.C_below HR0_0.out HB.out) | (with_reducible refine Kd.C_alloc ?_ _) | (with_reducible refine Kd.C_drewN ?_ _) | (with_reducible refine Kd.C_drew ?_))); (case side2 => exact HC0_0.out); (case side3 => repeat (first | exact (Kd.C_below HR0_1.out HB.out) | (with_reducible refine Kd.C_alloc ?_ _) | (with_reducible refine Kd.C_drewN ?_ _) | (with_reducible refine Kd.C_drew ?_))); (case side4 => exact HC0_1.out); rintro e w9 ⟨rfl, hb⟩; refine ⟨_, rfl, ?_⟩; have n0_ := Aside0.mk (blk_below (g := gb1231001) (o := .cells #[.slice A0_0 l0_0.length c0_0, .slice A0_1 l0_1.length c0_1] 28 (0, 0)) (by (with_reducible repeat (first | refine blk_drewN ?_ _ | refine blk_drew ?_ | refine blk_alloc ?_ _)); exact BK1231001.out) hb); have n1_ := Aside0.mk (below_step (by repeat (first | (with_reducible first | exact HB.out | apply below_alloc | apply pw_below_drewN | apply below_drew1 | refine below_set ?_ GE1231001.out) | exact HB.out)) hb); clear BK1231001; clear HB; have BK1231001 := n0_; have HB := n1_; clear n0_ n1_; (try clear hb); (try clear hb2); (try clear hk); (try clear hi); have hcz10_0 : w9.cell? ⟨gb1231001, 0, none⟩ = some (.slice A0_0 l0_0.length c0_0) := (blk_cell BK1231001.out 0).trans rfl; have hcz10_1 : w9.cell? ⟨gb1231001, 1, none⟩ = some (.slice A0_1 l0_1.length c0_1) := (blk_cell BK1231001.out 1).trans rfl; have hfz10_0 := blk_frozen BK1231001.out 0; have hfz10_1 := blk_frozen BK1231001.out 1) | ((with_reducible refine gate_callee (f := 97) rfl ?_); refine goesL_ (some 15) rfl rfl Try.func97 (by kernel_rfl) rfl #[.int .i64 a1, .int .i64 0, .int .i64 (wrap64 ((l0_0.length : Int) - 2))] rfl (by (try simp only [List.map_toArray, List.map_cons, List.map_nil]); first | done | rfl | (simp only [List.length_drop, List.length_take]; rfl)) ?_; (with_reducible refine (impl_in.calls a1 0 (wrap64 ((l0_0.length : Int) - 2)) true _ A5.out).mono ?_); rintro e w' ⟨rfl, ⟨nd, rfl⟩⟩; refine ⟨_, rfl, ?_⟩))
   go_ret
   exact ⟨by first | rfl | (simp [errW_none, errW_some] <;> rfl) | (simp [*, errW_none, errW_some] <;> rfl), by repeat (first | (with_reducible first | exact HB.out | apply below_alloc | apply pw_below_drewN | apply below_drew1 | refine below_set ?_ GE1231001.out) | exact HB.out)⟩
  ·replace c6 := Bool.eq_false_iff.mpr c6
   subst c6
   have H1 : (some 2) = some r := by rw [if_neg (show ¬ (false = true) by decide)] at H; exact H
   clear H
   have H := H1
   clear H1
   obtain rfl := Option.some.inj H
   go_enter Try.func123, Try.ntmps123
   go_wp2_with (first | ((with_reducible refine gate_dst (N := 2) rfl ?_); refine box_event ?hg (N := 2) ?hd (cs := #[.slice A0_0 l0_0.length c0_0, .slice A0_1 l0_1.length c0_1]) (t := 28) ?hr ?_; (case hd => rfl); (case hg => rfl); (case hr => first | (go_simp; done) | (go_simp; rfl)); intro gb1231001 hg w11 hbox hb; have n0_ := Aside0.mk (below_step (by repeat (first | (with_reducible first | exact HB.out | apply below_alloc | apply pw_below_drewN | apply below_drew1) | exact HB.out)) hb); have n1_ := Aside0.mk (hbox); have n2_ := Aside0.mk ((by rw [hg]; exact (below_size (by repeat (first | (with_reducible first | exact HB.out | apply below_alloc | apply pw_below_drewN | apply below_drew1) | exact HB.out))) : w.heap.size ≤ gb1231001)); have n3_ := Aside0.mk ((by rw [hg]; exact (below_size (by repeat (first | (with_reducible first | exact HB.out | apply below_alloc | apply pw_below_drewN | apply below_drew1) | exact HB.out))) : w.heap.size ≤ gb1231001)); clear HB; have HB := n0_; have BK1231001 := n1_; have GW1231001 := n2_; have GE1231001 := n3_; clear n0_ n1_ n2_ n3_; clear hb hbox hg; have hcz12_0 : w11.cell? ⟨gb1231001, 0, none⟩ = some (.slice A0_0 l0_0.length c0_0) := (blk_cell BK1231001.out 0).trans rfl; have hcz12_1 : w11.cell? ⟨gb1231001, 1, none⟩ = some (.slice A0_1 l0_1.length c0_1) := (blk_cell BK1231001.out 1).trans rfl; have hfz12_0 := blk_frozen BK1231001.out 0; have hfz12_1 := blk_frozen BK1231001.out 1) | ((with_reducible refine gate_callee (f := 21) rfl ?_); refine goesL_ (some 7) rfl rfl Try.func21 (by kernel_rfl) rfl #[.agg #[.slice A0_0 l0_0.length c0_0, .slice A0_1 l0_1.length c0_1]] rfl (by (try simp only [List.map_toArray, List.map_cons, List.map_nil]); first | done | rfl | (simp only [List.length_drop, List.length_take]; rfl)) ?_; (with_reducible refine (impl_IsWeb.calls _ _ l0_0 _ _ l0_1 true _ ?side1 ?side2 ?side3 ?side4 A3.out).mono ?_); (case side1 => repeat (first | exact (Kd.C_below HR0_0.out HB.out) | (with_reducible refine Kd.C_alloc ?_ _) | (with_reducible refine Kd.C_drewN ?_ _) | (with_reducible refine Kd.C_drew ?_))); (case side2 => exact HC0_0.out); (case side3 => repeat (first | exact (Kd.C_below HR0_1.out HB.out) | (with_reducible refine Kd.C_alloc ?_ _) | (with_reducible refine Kd.C_drewN ?_ _) | (with_reducible refine Kd.C_drew ?_))); (case side4 => exact HC0_1.out); rintro e w13 ⟨rfl, hb⟩; refine ⟨_, rfl, ?_⟩; have n0_ := Aside0.mk (blk_below (g := gb1231001) (o := .cells #[.slice A0_0 l0_0.length c0_0, .slice A0_1 l0_1.length c0_1] 28 (0, 0)) (by (with_reducible repeat (first | refine blk_drewN ?_ _ | refine blk_drew ?_ | refine blk_alloc ?_ _)); exact BK1231001.out) hb); have n1_ := Aside0.mk (below_step (by repeat (first | (with_reducible first | exact HB.out | apply below_alloc | apply pw_below_drewN | apply below_drew1 | refine below_set ?_ GE1231001.out) | exact HB.out)) hb); clear BK1231001; clear HB; have BK1231001 := n0_; have HB := n1_; clear n0_ n1_; (try clear hb); (try clear hb2); (try clear hk); (try clear hi); have hcz14_0 : w13.cell? ⟨gb1231001, 0, none⟩ = some (.slice A0_0 l0_0.length c0_0) := (blk_cell BK1231001.out 0).trans rfl; have hcz14_1 : w13.cell? ⟨gb1231001, 1, none⟩ = some (.slice A0_1 l0_1.length c0_1) := (blk_cell BK1231001.out 1).trans rfl; have hfz14_0 := blk_frozen BK1231001.out 0; have hfz14_1 := blk_frozen BK1231001.out 1) | ((with_reducible refine gate_callee (f := 97) rfl ?_); refine goesL_ (some 15) rfl rfl Try.func97 (by kernel_rfl) rfl #[.int .i64 a1, .int .i64 0, .int .i64 (wrap64 ((l0_0.length : Int) - 2))] rfl (by (try simp only [List.map_toArray, List.map_cons, List.map_nil]); first | done | rfl | (simp only [List.length_drop, List.length_take]; rfl)) ?_; (with_reducible refine (impl_in.calls a1 0 (wrap64 ((l0_0.length : Int) - 2)) false _ A5.out).mono ?_); rintro e w' ⟨rfl, ⟨nd, rfl⟩⟩; refine ⟨_, rfl, ?_⟩))
   go_ret
   exact ⟨by first | rfl | (simp [errW_none, errW_some] <;> rfl) | (simp [*, errW_none, errW_some] <;> rfl), by repeat (first | (with_reducible first | exact HB.out | apply below_alloc | apply pw_below_drewN | apply below_drew1 | refine below_set ?_ GE1231001.out) | exact HB.out)⟩
 ·replace c4 := Bool.eq_false_iff.mpr c4
  subst c4
  have H1 : (some 1) = some r := by rw [if_neg (show ¬ (false = true) by decide)] at H; exact H
  clear H
  have H := H1
  clear H1
  obtain rfl := Option.some.inj H
  go_enter Try.func123, Try.ntmps123
  go_wp2_with (first | ((with_reducible refine gate_dst (N := 2) rfl ?_); refine box_event ?hg (N := 2) ?hd (cs := #[.slice A0_0 l0_0.length c0_0, .slice A0_1 l0_1.length c0_1]) (t := 28) ?hr ?_; (case hd => rfl); (case hg => rfl); (case hr => first | (go_simp; done) | (go_simp; rfl)); intro gb1231001 hg w15 hbox hb; have n0_ := Aside0.mk (below_step (by repeat (first | (with_reducible first | exact HB.out | apply below_alloc | apply pw_below_drewN | apply below_drew1) | exact HB.out)) hb); have n1_ := Aside0.mk (hbox); have n2_ := Aside0.mk ((by rw [hg]; exact (below_size (by repeat (first | (with_reducible first | exact HB.out | apply below_alloc | apply pw_below_drewN | apply below_drew1) | exact HB.out))) : w.heap.size ≤ gb1231001)); have n3_ := Aside0.mk ((by rw [hg]; exact (below_size (by repeat (first | (with_reducible first | exact HB.out | apply below_alloc | apply pw_below_drewN | apply below_drew1) | exact HB.out))) : w.heap.size ≤ gb1231001)); clear HB; have HB := n0_; have BK1231001 := n1_; have GW1231001 := n2_; have GE1231001 := n3_; clear n0_ n1_ n2_ n3_; clear hb hbox hg; have hcz16_0 : w15.cell? ⟨gb1231001, 0, none⟩ = some (.slice A0_0 l0_0.length c0_0) := (blk_cell BK1231001.out 0).trans rfl; have hcz16_1 : w15.cell? ⟨gb1231001, 1, none⟩ = some (.slice A0_1 l0_1.length c0_1) := (blk_cell BK1231001.out 1).trans rfl; have hfz16_0 := blk_frozen BK1231001.out 0; have hfz16_1 := blk_frozen BK1231001.out 1) | ((with_reducible refine gate_callee (f := 21) rfl ?_); refine goesL_ (some 7) rfl rfl Try.func21 (by kernel_rfl) rfl #[.agg #[.slice A0_0 l0_0.length c0_0, .slice A0_1 l0_1.length c0_1]] rfl (by (try simp only [List.map_toArray, List.map_cons, List.map_nil]); first | done | rfl | (simp only [List.length_drop, List.length_take]; rfl)) ?_; (with_reducible refine (impl_IsWeb.calls _ _ l0_0 _ _ l0_1 false _ ?side1 ?side2 ?side3 ?side4 A3.out).mono ?_); (case side1 => repeat (first | exact (Kd.C_below HR0_0.out HB.out) | (with_reducible refine Kd.C_alloc ?_ _) | (with_reducible refine Kd.C_drewN ?_ _) | (with_reducible refine Kd.C_drew ?_))); (case side2 => exact HC0_0.out); (case side3 => repeat (first | exact (Kd.C_below HR0_1.out HB.out) | (with_reducible refine Kd.C_alloc ?_ _) | (with_reducible refine Kd.C_drewN ?_ _) | (with_reducible refine Kd.C_drew ?_))); (case side4 => exact HC0_1.out); rintro e w17 ⟨rfl, hb⟩; refine ⟨_, rfl, ?_⟩; have n0_ := Aside0.mk (blk_below (g := gb1231001) (o := .cells #[.slice A0_0 l0_0.length c0_0, .slice A0_1 l0_1.length c0_1] 28 (0, 0)) (by (with_reducible repeat (first | refine blk_drewN ?_ _ | refine blk_drew ?_ | refine blk_alloc ?_ _)); exact BK1231001.out) hb); have n1_ := Aside0.mk (below_step (by repeat (first | (with_reducible first | exact HB.out | apply below_alloc | apply pw_below_drewN | apply below_drew1 | refine below_set ?_ GE1231001.out) | exact HB.out)) hb); clear BK1231001; clear HB; have BK1231001 := n0_; have HB := n1_; clear n0_ n1_; (try clear hb); (try clear hb2); (try clear hk); (try clear hi)))
  go_ret
  exact ⟨by first | rfl | (simp [errW_none, errW_some] <;> rfl) | (simp [*, errW_none, errW_some] <;> rfl), by repeat (first | (with_reducible first | exact HB.out | apply below_alloc | apply pw_below_drewN | apply below_drew1 | refine below_set ?_ GE1231001.out) | exact HB.out)⟩
end Go.Proofs.Ytnlhhbnoccobmaa.F
end
section
namespace Go.Proofs.Ytnlhhbnoccobmaa.F
open Go.RowKit Go.Proofs.YtnlhhbnoccobmaaW.PrintWords Go.Proofs.YtnlhhbnoccobmaaW.PrintLast Go.Proofs.YtnlhhbnoccobmaaW.PrintMore
attribute [local go_sem] max2_int min2_int max_two min_two max_three min_three max_four min_four   
set_option linter.unusedVariables false
set_option linter.unusedSimpArgs false
open Go.Proofs.Ytnlhhbnoccobmaa.Mem
theorem grown_row {w W : World} {g : Nat} (h : w.grownBy W (some g)) (cs : Array Value) : w.grownBy (W.setRow g cs) (some g) :=
 ⟨h.os, h.tape, h.output, by rw [size_setRow]; exact h.size, fun k hk hne => by rw [setRow_other W g k cs (fun e => hne (by rw [e]))]; exact h.block k hk hne⟩
theorem size_i64r : (Try.prog.info? 2).map (·.size) = some 1 := by kernel_rfl
theorem zero_i64r (w : World) : (zeroValue 2).run Try.prog w = .ok (.int .i64 0) w := by kernel_rfl
set_option maxHeartbeats 4000000 in
set_option maxRecDepth 100000 in
theorem replace_end (g h cap i : Nat) (cur : List Value) (e : Int) (w : World) (hg : w.heap[g]? = some (.cells cur.toArray 2 (0, 0))) (hcur : cur.length = cap) (hcap : i + 2 ≤ cap) (hi : i ≤ 1000) (hv : w.cell? ⟨h, 0, none⟩ = some (.int .i64 e)) :
  Calls Try.prog 138 #[.slice (some ⟨g, 0, none⟩) (i + 2) cap, .int .i64 (i : Int), .int .i64 ((i + 2 : Nat) : Int), .slice (some ⟨h, 0, none⟩) 1 1] w fun en w' => en = .returned (.slice (some ⟨g, 0, none⟩) (i + 1) cap) ∧ w.grownBy w' (some g) ∧ ∃ cur' : List Value, w'.heap[g]? = some (.cells cur'.toArray 2 (0, 0)) ∧ cur'.length = cap ∧ cur'.take (i + 1) = cur.take i ++ [.int .i64 e] := by
 obtain ⟨n, hn⟩ : ∃ n, n = i + 2 := ⟨_, rfl⟩
 rw [← hn]
 have d0 : decide ((i : Int) < 0) = false := decide_eq_false (by omega)
 have d1 : ((i : Int) == (n : Int)) = false := by simp; omega
 have d3 : decide ((i : Int) + 1 < (n : Int)) = true := decide_eq_true (by omega)
 have h1 : i ≤ n := by omega
 have h2 : i ≤ cap := by omega
 have h3 : i + 1 ≤ n := by omega
 have h4 : i + 1 ≤ cap := by omega
 have h6 : n ≤ cap := by omega
 have h7 : ¬ cap = i := by omega
 have h8 : ¬ cap = i + 1 := by omega
 have hf : w.frozen? ⟨g, i, none⟩ = false := by simp [World.frozen?, hg]
 have hc : w.cell? ⟨g, i, none⟩ = cur[i]? := by simp [World.cell?, hg]
 obtain ⟨u, hu⟩ : ∃ u, cur[i]? = some u := ⟨_, List.getElem?_eq_getElem (by omega)⟩
 rw [hu] at hc
 have hg1 : (w.setCell ⟨g, i, none⟩ (.int .i64 e)).heap[g]? = some (.cells (cur.set i (.int .i64 e)).toArray 2 (0, 0)) := by
  have := blk_put (cs := cur.toArray) hg i (.int .i64 e) rfl
  simpa using this
 have hcl : ∀ ty, (Builtin.clear_ #[22] ty #[.slice (some ⟨g, i + 1, none⟩) (n - (i + 1)) (cap - (i + 1))]).run Try.prog (w.setCell ⟨g, i, none⟩ (.int .i64 e)) = .ok (.tuple #[]) ((w.setCell ⟨g, i, none⟩ (.int .i64 e)).setCell ⟨g, i + 1, none⟩ (.int .i64 0)) := fun ty => by
  have hr : List.replicate (n - (i + 1)) (Value.int .i64 0) = [.int .i64 0] := by rw [show n - (i + 1) = 1 by omega]; rfl
  have := Lib.run_clear_slice (P := Try.prog) (w.setCell ⟨g, i, none⟩ (.int .i64 e)) 22 2 ty (.int .i64 0) Try.underlying22 zero_i64r rfl rfl g (i + 1) (n - (i + 1)) (cap - (i + 1)) (by omega) (fun t ht => by
   have : t = 0 := by omega
   subst this
   simp [World.cell?, hg1]; omega) (fun t ht => by simp [World.frozen?, hg1])
  rw [hr] at this
  exact this
 have X1 := Aside0.mk hg
 have X2 := Aside0.mk hg1
 have X3 := Aside0.mk hcur
 have X4 := Aside0.mk hn
 clear hg hg1 hcur hn hi hcap hu
 go_enter Try.func138, Try.ntmps138
 go_wp2_with fail
 go_ret
 have hg2 := blk_put (cs := (cur.set i (.int .i64 e)).toArray) X2.out (i + 1) (.int .i64 0) rfl
 refine ⟨rfl, grown_set (grown_set (grown_refl w (some g)) i _) (i + 1) _, (cur.set i (.int .i64 e)).set (i + 1) (.int .i64 0), by simpa using hg2, by simp [X3.out], ?_⟩
 have := X3.out
 rw [List.take_set_of_le (by omega), List.take_succ_eq_append_getElem (by simp; omega)]
 simp
 exact List.take_set_of_le (by omega)
set_option maxHeartbeats 4000000 in
set_option maxRecDepth 100000 in
theorem replace_mid (g h cap i n : Nat) (cur : List Value) (e : Int) (w : World) (hg : w.heap[g]? = some (.cells cur.toArray 2 (0, 0))) (hcur : cur.length = cap) (hcap : n ≤ cap) (hn : i + 2 < n) (hi : n ≤ 1000) (hone : ∀ v ∈ cur.take n, v.oneCell' = true) (hv : w.cell? ⟨h, 0, none⟩ = some (.int .i64 e)) :
  Calls Try.prog 138 #[.slice (some ⟨g, 0, none⟩) n cap, .int .i64 (i : Int), .int .i64 ((i + 2 : Nat) : Int), .slice (some ⟨h, 0, none⟩) 1 1] w fun en w' => en = .returned (.slice (some ⟨g, 0, none⟩) (n - 1) cap) ∧ w.grownBy w' (some g) ∧ ∃ cur' : List Value, w'.heap[g]? = some (.cells cur'.toArray 2 (0, 0)) ∧ cur'.length = cap ∧ cur'.take (n - 1) = cur.take i ++ [.int .i64 e] ++ (cur.take n).drop (i + 2) := by
 obtain ⟨j, hj⟩ : ∃ j, j = i + 2 := ⟨_, rfl⟩
 obtain ⟨i1, hi1⟩ : ∃ i1, i1 = i + 1 := ⟨_, rfl⟩
 obtain ⟨m, hm⟩ : ∃ m, m = n - j := ⟨_, rfl⟩
 obtain ⟨t, ht⟩ : ∃ t, t = n - 1 := ⟨_, rfl⟩
 rw [← hj, ← ht]
 have d0 : decide ((i : Int) < 0) = false := decide_eq_false (by omega)
 have d1 : ((i : Int) == (j : Int)) = false := by simp; omega
 have d2 : ((j : Int) == (n : Int)) = false := by simp; omega
 have e3 : n - j = m := hm.symm
 have d3 : decide ((t : Int) > (cap : Int)) = false := decide_eq_false (by omega)
 have d4 : decide ((i1 : Int) ≤ (j : Int)) = true := decide_eq_true (by omega)
 have h1 : i ≤ n := by omega
 have h2 : i ≤ cap := by omega
 have h3 : j ≤ n := by omega
 have h4 : j ≤ cap := by omega
 have h5 : i ≤ j := by omega
 have h6 : t ≤ cap := by omega
 have h9 : i1 ≤ t := by omega
 have h10 : i ≤ t := by omega
 have h11 : t ≤ n := by omega
 have h7 : ¬ cap = i := by omega
 have h8 : ¬ cap = i1 := by omega
 have h12 : ¬ cap = j := by omega
 have h13 : ¬ cap = t := by omega
 have h14 : i1 ≤ j := by omega
 have h15 : ¬ cap < t := by omega
 obtain ⟨ys, hys⟩ : ∃ ys, ys = (cur.take n).drop j := ⟨_, rfl⟩
 have hyl : ys.length = m := by rw [hys]; simp; omega
 obtain ⟨cur1, hc1⟩ : ∃ c, c = cur.take i ++ [Value.int .i64 e] ++ cur.drop (i + 1) := ⟨_, rfl⟩
 have hl1 : cur1.length = cap := by rw [hc1]; simp; omega
 obtain ⟨W1, hW1⟩ : ∃ W, W = w.drew.setRow g cur1.toArray := ⟨_, rfl⟩
 have hgd : w.drew.heap[g]? = some (.cells cur.toArray 2 (0, 0)) := hg
 have hg1 : W1.heap[g]? = some (.cells cur1.toArray 2 (0, 0)) := by rw [hW1]; exact setRow_heap w.drew g cur.toArray _ 2 (0, 0) hgd
 have hcp1 : ∀ ty, (Builtin.copy_ #[22, 22] ty #[.slice (some ⟨g, i, none⟩) (t - i) (cap - i), .slice (some ⟨h, 0, none⟩) 1 1]).run Try.prog w.drew = .ok (.int .i64 1) W1 := fun ty => by
  have hmin : ([Value.int .i64 e] : List Value).length = Nat.min 1 (t - i) := (Nat.min_eq_left (show 1 ≤ t - i by omega)).symm
  have hsrc : ∀ j v, ([Value.int .i64 e] : List Value)[j]? = some v → w.drew.cell? ((⟨h, 0, none⟩ : Addr).add j) = some v := by
   intro j v hj
   cases j with
   | zero => (have hj : Value.int .i64 e = v := by simpa using hj); subst hj; exact hv
   | succ j => simp at hj
  have := run_copy_row (P := Try.prog) w.drew 22 22 ty 2 g i (t - i) (cap - i) ⟨h, 0, none⟩ 1 1 cur.toArray 2 [Value.int .i64 e] Try.underlying22 size_i64r hgd hmin hsrc (by simp; omega) (by simp [Value.oneCell'])
  rw [this, hW1, hc1]
  rfl
 obtain ⟨cur2, hc2⟩ : ∃ c, c = cur1.take i1 ++ ys ++ cur1.drop (i1 + m) := ⟨_, rfl⟩
 have hl2 : cur2.length = cap := by rw [hc2]; simp; omega
 obtain ⟨W2, hW2⟩ : ∃ W, W = W1.drew.setRow g cur2.toArray := ⟨_, rfl⟩
 have hg2 : W2.heap[g]? = some (.cells cur2.toArray 2 (0, 0)) := by rw [hW2]; exact setRow_heap W1.drew g cur1.toArray _ 2 (0, 0) hg1
 have hcp2 : ∀ ty, (Builtin.copy_ #[22, 22] ty #[.slice (some ⟨g, i1, none⟩) (t - i1) (cap - i1), .slice (some ⟨g, j, none⟩) m (cap - j)]).run Try.prog W1.drew = .ok (.int .i64 (m : Int)) W2 := fun ty => by
  have hmin : ys.length = Nat.min m (t - i1) := by rw [hyl]; exact (Nat.min_eq_left (show m ≤ t - i1 by omega)).symm
  have hsrc : ∀ k v, ys[k]? = some v → W1.drew.cell? ((⟨g, j, none⟩ : Addr).add k) = some v := by
   intro k v hk
   have hkl : k < m := by rw [← hyl]; exact (List.getElem?_eq_some_iff.1 hk).1
   rw [Addr.add_lit]
   have hg1d : W1.drew.heap[g]? = some (.cells cur1.toArray 2 (0, 0)) := hg1
   have e0 : W1.drew.cell? ⟨g, j + k, none⟩ = cur1[j + k]? := by simp [World.cell?, hg1d]
   rw [e0, ← hk, hys, hc1, List.getElem?_append_right (by simp; omega), List.getElem?_drop, List.getElem?_drop, List.getElem?_take_of_lt (by omega)]
   congr 1
   simp only [List.length_append, List.length_take, List.length_cons, List.length_nil]
   omega
  have h1c : ∀ v ∈ ys, v.oneCell' = true := fun v hv => hone v (by rw [hys] at hv; exact List.mem_of_mem_drop hv)
  have := run_copy_row (P := Try.prog) W1.drew 22 22 ty 2 g i1 (t - i1) (cap - i1) ⟨g, j, none⟩ m (cap - j) cur1.toArray 2 ys Try.underlying22 size_i64r hg1 hmin hsrc (by simp; omega) h1c
  rw [this, hW2, hc2, hyl]
  rfl
 have hcl : ∀ ty, (Builtin.clear_ #[22] ty #[.slice (some ⟨g, t, none⟩) (n - t) (cap - t)]).run Try.prog W2 = .ok (.tuple #[]) (W2.setCell ⟨g, t, none⟩ (.int .i64 0)) := fun ty => by
  have hr : List.replicate (n - t) (Value.int .i64 0) = [.int .i64 0] := by rw [show n - t = 1 by omega]; rfl
  have := Lib.run_clear_slice (P := Try.prog) W2 22 2 ty (.int .i64 0) Try.underlying22 zero_i64r rfl rfl g t (n - t) (cap - t) (by omega) (fun t ht => by
   have : t = 0 := by omega
   subst this
   simp [World.cell?, hg2]; omega) (fun t ht => by simp [World.frozen?, hg2])
  rw [hr] at this
  exact this
 have X9 := Aside0.mk hg2
 have X10 := Aside0.mk hc1
 have X11 := Aside0.mk hc2
 have X12 := Aside0.mk hW1
 have X13 := Aside0.mk hW2
 have X14 := Aside0.mk hyl
 have X15 := Aside0.mk hys
 clear hyl hc1 hl1 hW1 hgd hg1 hc2 hl2 hW2 hg2 hys
 have e2 : wrap64 ((i1 : Int) + (m : Int)) = (t : Int) := by unfold wrap64; omega
 have e1 : wrap64 ((i : Int) + 1) = (i1 : Int) := by clear e2; unfold wrap64; omega
 have X1 := Aside0.mk hg
 have X3 := Aside0.mk hcur
 have X4 := Aside0.mk hn
 have X5 := Aside0.mk hj
 have X6 := Aside0.mk hi1
 have X7 := Aside0.mk hm
 have X8 := Aside0.mk ht
 clear hg hcur hn hi hcap hj hi1 hm ht hone
 go_enter Try.func138, Try.ntmps138
 go_wp2_with fail
 go_region
 go_wp2_with fail
 go_region
 go_wp2_with fail
 go_ret
 have hg3 := blk_put (cs := cur2.toArray) X9.out t (.int .i64 0) rfl
 have hgr : w.grownBy W2 (some g) := by rw [X13.out, X12.out]; exact grown_row (grown_drew (grown_row (grown_drew (grown_refl w (some g))) _)) _
 have a4 := X4.out
 have a5 := X5.out
 have a6 := X6.out
 have a7 := X7.out
 have a8 := X8.out
 have a3 := X3.out
 have a14 := X14.out
 clear e1 e2
 have hl1 : cur1.length = cap := by rw [X10.out]; simp; omega
 have hl2 : cur2.length = cap := by rw [X11.out]; simp; omega
 refine ⟨rfl, grown_set hgr t _, cur2.set t (.int .i64 0), by simpa using hg3, by simp [hl2], ?_⟩
 rw [List.take_set_of_le (by omega), X11.out, List.take_append_of_le_length (by simp; omega), List.take_of_length_le (by simp; omega), X10.out, X15.out, List.take_append_of_le_length (by simp; omega), List.take_of_length_le (by simp; omega)]
theorem reps_eq {w : World} {base : Nat} {ok : Nat → Prop} : ∀ (xs : List Int) (cs : List Value), Reps ((Kd.int .i64).M w base ok) 1 xs cs → cs = nums .i64 xs := by
 intro xs cs h
 have hl : cs.length = xs.length := by have := h.1; omega
 apply List.ext_getElem
 ·simp [nums, hl]
 ·intro j h1 h2
  have h3 : ((cs.drop (j * 1)).take 1) = [Value.int .i64 xs[j]] := h.2 j xs[j] (List.getElem?_eq_getElem (by omega))
  rw [Nat.mul_one, List.drop_eq_getElem_cons h1] at h3
  simp only [List.take_succ_cons, List.take_zero, List.cons.injEq, and_true] at h3
  rw [h3]
  simp [nums]
theorem cur_of_R {w : World} {e base g n cap : Nat} {ok : Nat → Prop} {xs : List Int} (h : Kd.R (Kd.int .i64) e w base ok (.slice (some ⟨g, 0, none⟩) n cap) xs) :
  ∃ cur : List Value, w.heap[g]? = some (.cells cur.toArray e (0, 0)) ∧ cur.length = cap ∧ n ≤ cap ∧ cap ≤ maxLen ∧ n = xs.length ∧ base ≤ g ∧ ok g ∧ cur.take n = nums .i64 xs := by
 obtain ⟨h0, inner, ho, hr⟩ := h
 have hi := reps_eq _ _ hr
 subst hi
 obtain ⟨h1, ⟨h2, _⟩ | ⟨g', cap', cur, h3, hb, h4, h5, h6, h7, h8⟩⟩ := ho
 ·cases h2
 ·injection h3 with h3 h3n h3c
  injection h3 with h3
  injection h3 with h3 _ _
  subst h3; subst h3c; subst h3n
  refine ⟨cur.toList, by simpa using h4, ?_, h5, h6, rfl, hb, h0 g rfl, ?_⟩
  ·have : cur.size = cap * 1 := h7
   simp; omega
  ·have h8 : cur.toList.take (xs.length * 1) = _ := h8
   rwa [Nat.mul_one] at h8
theorem R_of_cur {w : World} {e base g cap : Nat} {ok : Nat → Prop} {xs : List Int} {cur : List Value} (hb : w.heap[g]? = some (.cells cur.toArray e (0, 0))) (hl : cur.length = cap) (hn : xs.length ≤ cap) (hm : cap ≤ maxLen) (hbase : base ≤ g) (hok : ok g) (hc : cur.take xs.length = nums .i64 xs) :
  Kd.R (Kd.int .i64) e w base ok (.slice (some ⟨g, 0, none⟩) xs.length cap) xs := by
 refine ⟨fun k hk => by simp [Value.ownBlock] at hk; rw [← hk]; exact hok, nums .i64 xs, ⟨?_, .inr ⟨g, cap, cur.toArray, rfl, hbase, hb, hn, hm, ?_, ?_⟩⟩, reps_nums xs⟩
 ·show _ = xs.length * 1
  simp [nums]
 ·show _ = cap * 1
  simp [hl]
 ·show List.take (xs.length * 1) _ = _
  rw [Nat.mul_one]; simpa using hc
theorem replace_two (g h n cap i base : Nat) (ok : Nat → Prop) (l : List Int) (e : Int) (w : World) (hR : Kd.R (Kd.int .i64) 2 w base ok (.slice (some ⟨g, 0, none⟩) n cap) l) (hi : i + 2 ≤ n) (hn : n ≤ 1000) (hv : w.cell? ⟨h, 0, none⟩ = some (.int .i64 e)) :
  Calls Try.prog 138 #[.slice (some ⟨g, 0, none⟩) n cap, .int .i64 (i : Int), .int .i64 ((i + 2 : Nat) : Int), .slice (some ⟨h, 0, none⟩) 1 1] w fun en w' => en = .returned (.slice (some ⟨g, 0, none⟩) (n - 1) cap) ∧ w.grownBy w' (some g) ∧ Kd.R (Kd.int .i64) 2 w' base ok (.slice (some ⟨g, 0, none⟩) (n - 1) cap) (l.take i ++ [e] ++ l.drop (i + 2)) := by
 obtain ⟨cur, hg, hl, hnc, hcm, hnl, hb, hok, ht⟩ := cur_of_R hR
 have hti : cur.take i = nums .i64 (l.take i) := by
  have := congrArg (List.take i) ht
  rw [List.take_take, Nat.min_eq_left (by omega)] at this
  rw [this]; simp [nums]
 have htd : (cur.take n).drop (i + 2) = nums .i64 (l.drop (i + 2)) := by rw [ht]; simp [nums]
 have hlen : (l.take i ++ [e] ++ l.drop (i + 2)).length = n - 1 := by simp; omega
 have key : ∀ (w' : World) (cur' : List Value), w'.heap[g]? = some (.cells cur'.toArray 2 (0, 0)) → cur'.length = cap → cur'.take (n - 1) = cur.take i ++ [.int .i64 e] ++ (cur.take n).drop (i + 2) → Kd.R (Kd.int .i64) 2 w' base ok (.slice (some ⟨g, 0, none⟩) (n - 1) cap) (l.take i ++ [e] ++ l.drop (i + 2)) := by
  intro w' cur' h1 h2 h3
  have := R_of_cur (base := base) (ok := ok) (xs := l.take i ++ [e] ++ l.drop (i + 2)) h1 h2 (by omega) hcm hb hok (by rw [hlen, h3, hti, htd]; simp [nums])
  rw [hlen] at this
  exact this
 by_cases hd : n = i + 2
 ·subst hd
  refine (replace_end g h cap i cur e w hg hl hnc (by omega) hv).mono ?_
  rintro en w' ⟨rfl, hgr, cur', h1, h2, h3⟩
  refine ⟨rfl, hgr, key w' cur' h1 h2 ?_⟩
  rw [List.drop_eq_nil_of_le (by rw [List.length_take]; omega), List.append_nil]
  exact h3
 ·refine (replace_mid g h cap i n cur e w hg hl hnc (by omega) hn (by rw [ht]; intro v hv; simp [nums] at hv; obtain ⟨x, _, rfl⟩ := hv; rfl) hv).mono ?_
  rintro en w' ⟨rfl, hgr, cur', h1, h2, h3⟩
  exact ⟨rfl, hgr, key w' cur' h1 h2 h3⟩
theorem replace_at (g h n cap i j base : Nat) (ok : Nat → Prop) (l : List Int) (e : Int) (w : World) (hj : j = i + 2) (hR : Kd.R (Kd.int .i64) 2 w base ok (.slice (some ⟨g, 0, none⟩) n cap) l) (hi : i + 2 ≤ n) (hn : n ≤ 1000) (hv : w.cell? ⟨h, 0, none⟩ = some (.int .i64 e)) :
  Calls Try.prog 138 #[.slice (some ⟨g, 0, none⟩) n cap, .int .i64 (i : Int), .int .i64 (j : Int), .slice (some ⟨h, 0, none⟩) 1 1] w fun en w' => en = .returned (.slice (some ⟨g, 0, none⟩) (n - 1) cap) ∧ w.grownBy w' (some g) ∧ Kd.R (Kd.int .i64) 2 w' base ok (.slice (some ⟨g, 0, none⟩) (n - 1) cap) (l.take i ++ [e] ++ l.drop (i + 2)) := by
 subst hj
 exact replace_two g h n cap i base ok l e w hR hi hn hv
end Go.Proofs.Ytnlhhbnoccobmaa.F
end
section
namespace Go.Proofs.Ytnlhhbnoccobmaa.F
open Go.RowKit Go.Proofs.YtnlhhbnoccobmaaW.PrintWords Go.Proofs.YtnlhhbnoccobmaaW.PrintLast Go.Proofs.YtnlhhbnoccobmaaW.PrintMore
attribute [local go_sem] max2_int min2_int max_two min_two max_three min_three max_four min_four   
set_option linter.unusedVariables false
set_option linter.unusedSimpArgs false
open Go.Proofs.Ytnlhhbnoccobmaa.Mem Go.Proofs.Ytnlhhbnoccobmaa.Web Go.Maps Go.Proofs.YtnlhhbnoccobmaaW.PrintLast
theorem wS1 {n : Nat} (h : n < 4611686018427387904) : wrap64 ((n : Int) + 1) = ((n + 1 : Nat) : Int) := by unfold wrap64; omega
theorem cell_al {W : World} {a : Addr} {v : Value} {o : Obj} (h : W.cell? a = some v) : (W.alloc o).cell? a = some v := (World.grownBy_alloc W o none).cell h (by simp)
theorem cell_dr {W : World} {a : Addr} {v : Value} (h : W.cell? a = some v) : W.drew.cell? a = some v := h
theorem append_exec {P : Program} {a : Act} {o : Oper} {s x : Operand} {t : TypeId} {v u r : Value} {W W' : World} (ho : o.op = .call { callee := .builtin .append, args := #[s, x], argTypes := #[t, t] }) (hs : a.eval s = v) (hx : a.eval x = u) (hr : (Builtin.append_ #[t, t] o.type #[v, u]).run P W = .ok r W') : (execOp a.eval o).run P W = .ok (.value r) W' := by
 unfold execOp
 simp only [ho, resolve, invoke, builtin, Sem.run_bind, Sem.run_pure, Result.andThen_ok, List.map_toArray, List.map_cons, List.map_nil, hs, hx, hr]
def fork_T7 : Bool × List (List Nat × List Nat) := (true, [([], []), ([0], [0]), ([], []), ([], []), ([3], [3]), ([], []), ([4, 5], [4, 5]), ([6], [6]), ([], []), ([8], [8]), ([], []), ([10], [10]), ([9, 11], [9, 11]), ([12], [12]), ([2, 7, 13], [2, 7, 13]), ([14], [14]), ([1, 15], [1, 15]), ([0, 1, 2, 3, 4, 5, 6, 7, 8, 9, 10, 11, 12, 13, 14, 15, 16], []), ([17, 16, 16, 0, 1, 2, 3, 4, 5, 6, 7, 8, 9, 10, 11, 12, 13, 14, 15, 16], [16, 17])])
def fork_B7 : List Nat := [0, 1, 0, 0, 8, 0, 56, 120, 0, 256, 0, 1024, 3840, 7936, 16380, 32764, 65535, 131071, 262143]
theorem fork_tab7 : rtab .any (opsOf Try.f57 7) = fork_T7 := by kernel_rfl
theorem fork_bits7 : waitsOk fork_T7.2 fork_B7 = true := by kernel_rfl
theorem run_append_S {α : Type} {P : Program} (d : Kd α) {w0 W : World} (base : Nat) (t e : TypeId) (z : Value) (bytes : Nat)
  (ht : P.underlying t = some (.slice e)) (hinfo : (P.info? e).map (fun i => (i.zero, i.size, i.bytes)) = some (some z, d.sz, bytes)) (hz : z.cells.size = d.sz) (hs0 : 0 < d.sz) (hd1 : d.sz = 1) (hb0 : 0 < bytes)
  (v : Value) (xs : List α) (p : α) (cs : List Value) (ok okp : Nat → Prop) (hp : d.M W base okp p cs) (hokp : ∀ k, okp k → ok k ∧ some k ≠ v.ownBlock) (hfresh : ∀ k, W.heap.size ≤ k → ok k)
  (HO : Kd.S d e W base (fun k => ok k ∧ ¬ okp k) v xs) (HB : Below base w0 W) (hbase : base ≤ W.heap.size) (hl : (xs.length + 1) * bytes ≤ 140737488355328) :
  ∃ v1 w1, (Builtin.append_ #[t, t] t #[v, .slice (some ⟨W.heap.size, 0, none⟩) 1 1]).run P (W.alloc (.cells cs.toArray e)) = .ok v1 w1 ∧ Kd.S d e w1 base ok v1 (xs ++ [p]) ∧ Below base w0 w1 ∧ W.grownBy w1 v.ownBlock := by
 obtain ⟨f, hf, hR⟩ := Kd.S_tag HO xs.length okp (fun _ hk h2 => h2.2 hk)
 obtain ⟨h0, inner, hown, hr⟩ := hR
 obtain ⟨i0, hi, hzz⟩ := Option.map_eq_some_iff.1 hinfo
 simp only [Prod.mk.injEq] at hzz
 obtain ⟨hz0, hz1, hz2⟩ := hzz
 have hlen : xs.length + 1 ≤ 140737488355328 := Nat.le_trans (Nat.le_mul_of_pos_right _ hb0) hl
 have hcl : cs.length = d.sz := d.K_len (d.K_of_M hp)
 have hown' : W.ownsRow base e d.sz v xs.length inner := by rw [List.length_zipIdx] at hown; exact hown
 obtain ⟨v1, w1, hrun, hown1, hg1, _, hat1⟩ := run_append_own_at (P := P) (w := W.alloc (.cells cs.toArray e)) base t t e i0 z d.sz bytes ht hi hz0 hz1 hz2 hz hs0 v xs.length inner (hown'.alloc _) ⟨W.heap.size, 0, none⟩ 1 1 cs (by rw [hcl, Nat.one_mul]) (World.news_of_block (t := e) (fr := (0, 0)) (heap_alloc_new W _)) (d.K_one (d.K_of_M hp)) (by simp only [maxLen]; omega) hl (by simp; omega)
 have hg2 := World.grownBy.trans (World.grownBy_alloc W (.cells cs.toArray e) _) hg1
 refine ⟨v1, w1, hrun, ⟨f, ?_⟩, (HB.alloc hbase _).grown hg1 (by simp; omega) (own_base hown'), hg2⟩
 have := Kd.R_appended (d := Kd.tag f d) (ok := ok) (okp := okp) (p := (p, xs.length)) (fun k hk => (h0 k hk).1) (hr.imp_ (fun _ _ hq => (Kd.tag f d).M_mono (fun k hk => ⟨hk.1.1, hk.2⟩) hq)) (d.M_mono (fun k hk => ⟨hk, hf k hk⟩) hp) hokp hfresh (by rw [List.length_zipIdx]; exact hown1) hg2 (hat1.imp id (fun h => ⟨_, h, by simp⟩))
 rw [← Kd.zip_snoc] at this
 exact this
set_option maxHeartbeats 8000000 in
set_option maxRecDepth 100000 in
theorem fork_one (k : Nat) (A0_0 : Option Addr) (c0_0 : Nat) (l0_0 : List Int) (A0_1 : Option Addr) (c0_1 : Nat) (l0_1 : List (List Int)) (i : Nat) (w : World) (hr0_0 : Kd.C (Kd.int .i64) w A0_0 l0_0.length l0_0) (hc0_0 : l0_0.length ≤ c0_0) (hr0_1 : Kd.C (Kd.slice 2 (Kd.int .i64)) w A0_1 l0_1.length l0_1) (hc0_1 : l0_1.length ≤ c0_1) (h1 : impl_legsFault.f l0_0 l0_1 (i : Int) = some 0) (h2 : impl_cloneWeb.f k l0_0 l0_1 = some (l0_0, l0_1)) (hi : i + 1 < l0_0.length) (hweb : isWebC l0_0 l0_1 = true) (hwf : wfW l0_0 l0_1 = true) :
  Calls Try.prog 57 #[.agg #[.slice A0_0 l0_0.length c0_0, .slice A0_1 l0_1.length c0_1], .int .i64 (i : Int)] w fun e w' => ∃ v0_ v1_ : Value, e = .returned (.tuple #[.agg #[v0_, v1_], .int .i64 0]) ∧ Kd.R (Kd.int .i64) 2 w' w.heap.size (fun _ => True) v0_ (l0_0.take i ++ [((freshN (inc l0_0 l0_1) : Nat) : Int)] ++ l0_0.drop (i + 2)) ∧ Kd.S (Kd.slice 2 (Kd.int .i64)) 22 w' w.heap.size (fun k_ => some k_ ≠ (v0_ : Value).ownBlock) v1_ (l0_1 ++ [[((freshN (inc l0_0 l0_1) : Nat) : Int), l0_0.getD i 0, l0_0.getD (i + 1) 0]]) ∧ Below w.heap.size w w' := by
 have hu28 := Try.underlying28
 have HR0 := Aside0.mk hr0_0
 have HC0 := Aside0.mk hc0_0
 have HR1 := Aside0.mk hr0_1
 have HC1 := Aside0.mk hc0_1
 have H1 := Aside0.mk h1
 have H2 := Aside0.mk h2
 have HI := Aside0.mk hi
 obtain ⟨h8, h3, htw, _⟩ := web_of hweb
 have H8 := Aside0.mk h8
 have H3 := Aside0.mk h3
 have hkeys : ∀ p ∈ inc l0_0 l0_1, p.1 ≤ 1000 := fun p hp => by
  have := List.all_eq_true.1 htw p hp
  simp only [Bool.and_eq_true, decide_eq_true_eq] at this
  exact this.1.2
 obtain ⟨hf1, hf2, hf3⟩ := freshN_spec hkeys
 obtain ⟨F, hF⟩ : ∃ F, F = freshN (inc l0_0 l0_1) := ⟨_, rfl⟩
 rw [← hF] at hf1 hf2 hf3 ⊢
 have HF1 := Aside0.mk hf1
 have HF2 := Aside0.mk hf2
 have HF3 := Aside0.mk hf3
 have HWF := Aside0.mk (fun p hp => List.all_eq_true.1 hwf p hp)
 clear h8 h3 htw hkeys hf1 hf2 hf3 hF hweb hwf
 obtain ⟨i1, hi1⟩ : ∃ j, j = i + 1 := ⟨_, rfl⟩
 have e1 : wrap64 ((i : Int) + 1) = (i1 : Int) := by have := H8.out; have := HI.out; unfold wrap64; omega
 have e1' : IntKind.i64.wrap ((i : Int) + 1) = (i1 : Int) := by rw [i64_w]; exact e1
 have HI1 := Aside0.mk hi1
 clear hi1
 obtain ⟨j2, hj2⟩ : ∃ j, j = i + 2 := ⟨_, rfl⟩
 have e2 : wrap64 ((i : Int) + 2) = (j2 : Int) := by clear e1 e1' HI1; have := H8.out; have := HI.out; unfold wrap64; omega
 have HJ2 := Aside0.mk hj2
 clear hj2
 clear hr0_0 hc0_0 hr0_1 hc0_1 h1 h2 hi
 go_enter Try.func57, Try.ntmps57
 go_wp2_with fail
 have b0 : ((w.alloc (.cells #[.slice A0_0 l0_0.length c0_0, .slice A0_1 l0_1.length c0_1] 28)).alloc (.cells #[.slice none 0 0, .slice none 0 0] 28)).heap[w.heap.size]? = some (.cells #[.slice A0_0 l0_0.length c0_0, .slice A0_1 l0_1.length c0_1] 28 (0, 0)) := blk_alloc (new_at rfl) _
 have b1 : ((w.alloc (.cells #[.slice A0_0 l0_0.length c0_0, .slice A0_1 l0_1.length c0_1] 28)).alloc (.cells #[.slice none 0 0, .slice none 0 0] 28)).heap[w.heap.size + 1]? = some (.cells #[.slice none 0 0, .slice none 0 0] 28 (0, 0)) := new_at (by simp)
 have hB : Below w.heap.size w ((w.alloc (.cells #[.slice A0_0 l0_0.length c0_0, .slice A0_1 l0_1.length c0_1] 28)).alloc (.cells #[.slice none 0 0, .slice none 0 0] 28)) := below_alloc (below_alloc (Below.refl _ _) _) _
 generalize ((w.alloc (.cells #[.slice A0_0 l0_0.length c0_0, .slice A0_1 l0_1.length c0_1] 28)).alloc (.cells #[.slice none 0 0, .slice none 0 0] 28)) = W0 at b0 b1 hB ⊢
 refine (impl_legsFault.calls A0_0 c0_0 l0_0 A0_1 c0_1 l0_1 (i : Int) 0 _ (Kd.C_below HR0.out hB) HC0.out (Kd.C_below HR1.out hB) HC1.out H1.out).mono ?_
 rintro e w1 ⟨rfl, hb1⟩
 have b0 := blk_below b0 hb1
 have b1 := blk_below b1 hb1
 have hB := below_step hB hb1
 have c0 : w1.cell? ⟨w.heap.size, 0, none⟩ = some (.slice A0_0 l0_0.length c0_0) := (blk_cell b0 0).trans rfl
 have c1 : w1.cell? ⟨w.heap.size, 1, none⟩ = some (.slice A0_1 l0_1.length c0_1) := (blk_cell b0 1).trans rfl
 have HL0 := Aside0.mk (show w.heap.size + 1 < w1.heap.size from blk_lt b1)
 have B0 := Aside0.mk b0
 have B1 := Aside0.mk b1
 have HB := Aside0.mk hB
 clear b0 b1 hB hb1
 clear b0 b1 hB
 go_wp2_with fail
 refine (impl_cloneWeb.calls k A0_0 c0_0 l0_0 A0_1 c0_1 l0_1 l0_0 l0_1 _ (Kd.C_below HR0.out HB.out) HC0.out (Kd.C_below HR1.out HB.out) HC1.out H2.out).mono ?_
 rintro e w2 ⟨v0, v1, rfl, ho0, ho1, hb2⟩
 obtain ⟨g, co, rfl, gb, gl, cl, HG⟩ := Kd.R_form ho0 (by have := HI.out; omega)
 obtain ⟨A1, co1, rfl⟩ := Kd.S_slice ho1
 have HLV := Aside0.mk hb2.size
 have O0 := Aside0.mk ho0
 have O1 := Aside0.mk ho1
 have B0 := Aside0.mk (blk_below B0.out hb2)
 have B1 := Aside0.mk (blk_below B1.out hb2)
 have HB2 := Aside0.mk (below_step HB.out hb2)
 have GB := Aside0.mk gb
 have GL := Aside0.mk gl
 clear ho0 ho1 hb2 gb gl HG c0 c1
 go_wp2_with fail
 refine (stands_walk l0_0 l0_1 w.heap.size A0_0 c0_0 A0_1 c0_1 H8.out H3.out HWF.out _ B0.out (Kd.C_below HR0.out HB2.out) (Kd.C_below HR1.out HB2.out)).mono ?_
 rintro e w3 ⟨rfl, hgr, hb3⟩
 obtain ⟨Bm, hBm⟩ : ∃ B, B = w2.heap.size := ⟨_, rfl⟩
 rw [← hBm] at hgr ⊢
 have HBM := Aside0.mk hBm
 have HLW := Aside0.mk (show w1.heap.size ≤ w3.heap.size from Nat.le_trans HLV.out hb3.size)
 have HL31 := Aside0.mk (show w.heap.size + 1 < w3.heap.size from blk_lt (blk_below B1.out hb3))
 have HBL := Aside0.mk (show Bm < w3.heap.size from hgr.choose_spec.choose_spec.1 |> fun h => blk_lt h)
 have O0 := Aside0.mk (Kd.R_alloc (Kd.R_below O0.out hb3) (.cells #[.slice (some ⟨g, 0, none⟩) l0_0.length co, .slice A1 l0_1.length co1] 28))
 have O1 := Aside0.mk (Kd.S_alloc (Kd.S_below O1.out hb3) (.cells #[.slice (some ⟨g, 0, none⟩) l0_0.length co, .slice A1 l0_1.length co1] 28))
 have B0 := Aside0.mk (blk_alloc (blk_below B0.out hb3) (.cells #[.slice (some ⟨g, 0, none⟩) l0_0.length co, .slice A1 l0_1.length co1] 28))
 have B1 := Aside0.mk (blk_alloc (blk_below B1.out hb3) (.cells #[.slice (some ⟨g, 0, none⟩) l0_0.length co, .slice A1 l0_1.length co1] 28))
 have HB3 := Aside0.mk (below_alloc (below_step HB2.out hb3) (.cells #[.slice (some ⟨g, 0, none⟩) l0_0.length co, .slice A1 l0_1.length co1] 28))
 have b7 := @new_at w3 (.cells #[.slice (some ⟨g, 0, none⟩) l0_0.length co, .slice A1 l0_1.length co1] 28) _ rfl
 have GR := Aside0.mk (hgr.kept (World.grownBy_alloc w3 (.cells #[.slice (some ⟨g, 0, none⟩) l0_0.length co, .slice A1 l0_1.length co1] 28) none) (by simp) (fun es clock _ x _ => by cases x.val.ownBlock <;> simp))
 have HL3 := Aside0.mk (show g < w3.heap.size from Nat.lt_of_lt_of_le GL.out hb3.size)
 have B7 := Aside0.mk b7
 obtain ⟨B, hBe⟩ : ∃ B, B = w3.heap.size := ⟨_, rfl⟩
 have HBE := Aside0.mk hBe
 clear hgr hb3 b7 hBm
 go_wp2_with fail
 rw [← hBe] at B7 HL3 HL31 HBL ⊢
 have HL3B := Aside0.mk (show w1.heap.size ≤ B from by rw [hBe]; exact HLW.out)
 generalize (w3.alloc (.cells #[.slice (some ⟨g, 0, none⟩) l0_0.length co, .slice A1 l0_1.length co1] 28)) = W4 at O0 O1 B0 B1 HB3 GR B7 ⊢
 clear hBe
 have hneq := fun (W : World) (a : Option Addr) (n c : Nat) => Go.run_neq_slice_nil (P := Try.prog) W 83 3 a n c Try.underlying83
 obtain ⟨I, hI⟩ : ∃ I, I = inc l0_0 l0_1 := ⟨_, rfl⟩
 rw [← hI] at GR HF2 HF3
 have HIL := Aside0.mk (show I.length ≤ 100 from by rw [hI, inc_len H3.out]; have := H8.out; omega)
 clear hI
 go_loopw [8] (fun s8 wr => ∃ x : Nat, s8 = .int .i64 (x : Int) ∧ Aside0 (x ≤ F) ∧ wr = W4) (fun s8 _ => F - (intOf s8).toNat)
 case atStart => exact ⟨0, rfl, ⟨Nat.zero_le _⟩, rfl⟩
 case round =>
  obtain ⟨x, rfl, HX, hwr⟩ := hrel
  subst hwr
  have hkey := keyOf_int_mk Try.underlying2 (show (Lit.int .i64 (x : Int)).wf = true from WalkArith.wf_i64 (by have := HX.out; have := HF1.out; omega))
  by_cases hx : x < F
  ·have HXF := Aside0.mk hx
   have HNE := Aside0.mk (HF3.out x hx)
   clear hx
   go_wp2_with (first
    | (at_lookup; refine wpList_lookup_groups _ rfl _ _ 81 rfl 2 83 3 .i64 webKey Try.underlying81 (webZero _) (Bm + 1) Bm I.length _ rfl GR.out (by have := HIL.out; unfold maxLen; omega) _ _ rfl hkey ?_; intro v zs hat hoi hzl hback; obtain ⟨gg, cc, rfl⟩ := look_some hoi hat HNE.out; clear hat hoi hzl hback)
    | go_in)
   go_roundw
   case rel => exact ⟨x + 1, congrArg _ (wS1 (by have := HX.out; have := HF1.out; omega)), ⟨HXF.out⟩, trivial⟩
   case measure => have := HX.out; have := HF1.out; have := HXF.out; rw [wS1 (by omega)]; simp [intOf]; omega
  ·obtain rfl : x = F := by have := HX.out; omega
   clear hx
   go_wp2_with (first
    | (at_lookup; refine wpList_lookup_groups _ rfl _ _ 81 rfl 2 83 3 .i64 webKey Try.underlying81 (webZero _) (Bm + 1) Bm I.length _ rfl GR.out (by have := HIL.out; unfold maxLen; omega) _ _ rfl hkey ?_; intro v zs hat hoi hzl hback; obtain rfl := look_none hoi hat HF2.out; clear hat hoi hzl hback)
    | go_in)
   obtain ⟨ad0, eA0, x0⟩ := cell_of_C (Kd.C_below HR0.out HB3.out) i (by have := HI.out; omega)
   obtain ⟨ad1, eA1, x1⟩ := cell_of_C (Kd.C_below HR0.out HB3.out) i1 (by have := HI.out; have := HI1.out; omega)
   subst eA0
   obtain rfl := Option.some.inj eA1
   obtain ⟨X, hX⟩ : ∃ X, X = l0_0.getD i 0 := ⟨_, rfl⟩
   obtain ⟨Y, hY⟩ : ∃ Y, Y = l0_0.getD i1 0 := ⟨_, rfl⟩
   rw [← hX] at x0
   rw [← hY] at x1
   obtain ⟨_, ey0, y0⟩ := cell_of_C HR0.out i (by have := HI.out; omega)
   obtain rfl := Option.some.inj ey0
   obtain ⟨_, ey1, y1⟩ := cell_of_C HR0.out i1 (by have := HI.out; have := HI1.out; omega)
   obtain rfl := Option.some.inj ey1
   have HXX := Aside0.mk hX
   have HYY := Aside0.mk hY
   have c00 := (blk_cell B0.out 0).trans rfl
   have c71 := (blk_cell B7.out 1).trans rfl
   have t0 : decide ((i : Int) < (l0_0.length : Int)) = true := decide_eq_true (by have := HI.out; omega)
   have t1 : decide ((i1 : Int) < (l0_0.length : Int)) = true := decide_eq_true (by have := HI.out; have := HI1.out; omega)
   have hi0 : i < l0_0.length := by have := HI.out; omega
   have hi1 : i1 < l0_0.length := by have := HI.out; have := HI1.out; omega
   have HOL := Aside0.mk (Kd.S_lower O1.out (below_size HB.out))
   clear hX hY
   have hBA : some B ≠ (Value.slice A1 l0_1.length co1).ownBlock := Kd.S_ne HOL.out B7.out (by decide)
   have hBR : some (w.heap.size + 1) ≠ (Value.slice A1 l0_1.length co1).ownBlock := Kd.S_ne HOL.out B1.out (by decide)
   have hgA : some g ≠ (Value.slice A1 l0_1.length co1).ownBlock := fun e => (Kd.S_R HOL.out).1 g e.symm rfl
   have HBA := Aside0.mk hBA
   have HBR := Aside0.mk hBR
   have HGA := Aside0.mk hgA
   have HBX := Aside0.mk (blk_lt B7.out)
   have HBY := Aside0.mk (blk_lt B1.out)
   have HGW := Aside0.mk (Kd.R_lt O0.out g rfl)
   have HWW := Aside0.mk (show w.heap.size ≤ wr.heap.size from below_size HB3.out)
   have hAW : ∀ a : Addr, a.block < w1.heap.size → some a.block ≠ (Value.slice A1 l0_1.length co1).ownBlock := fun a ha e => by have := Kd.S_base O1.out a.block e.symm; omega
   have hw01 := HL0.out
   have hA0 := World.block_lt_of_cell? w _ y0
   have hA1 := World.block_lt_of_cell? w _ y1
   have hww1 : w.heap.size ≤ w1.heap.size := by omega
   obtain ⟨v8, w8, hrun, hs8, hb8, hg8⟩ := run_append_S (P := Try.prog) (Kd.slice 2 (Kd.int .i64)) (w0 := w) (W := wr.drew.alloc (.cells #[.int .i64 (x : Int), .int .i64 X, .int .i64 Y] 2)) w.heap.size 23 22 (.slice none 0 0) 24 Try.underlying23 info22 rfl (by decide) rfl (by decide) (.slice A1 l0_1.length co1) l0_1 [(x : Int), X, Y] [.slice (some ⟨wr.heap.size, 0, none⟩) 3 3] (fun k_ => some k_ ≠ some g) (fun k_ => k_ = wr.heap.size) ⟨_, rfl, R_of_block_ok (new_at rfl) rfl (by unfold maxLen; simp) HWW.out _ rfl⟩ (fun k hk => ⟨fun e => by have := HGW.out; injection e with e; omega, fun e => by have := Kd.S_lt HOL.out k e.symm; omega⟩) (fun k hk e => by have := HGW.out; injection e with e; simp at hk; omega) (Kd.S_mono (Kd.S_alloc (Kd.S_drew (Kd.S_bound HOL.out)) _) (fun k hk => ⟨hk.1, fun e => by have := hk.2.2.1; omega⟩)) (below_alloc (below_drew1 HB3.out) _) (by have := HWW.out; simp; omega) (by have := H8.out; omega)
   obtain ⟨A8, co8, rfl⟩ := Kd.S_slice hs8
   rw [List.length_append, List.length_singleton] at hs8 hrun
   have hrun' : ∀ W, W = ((wr.alloc (.cells #[.int .i64 (x : Int), .int .i64 X, .int .i64 Y] 2)).alloc (.cells #[.slice (some ⟨wr.heap.size, 0, none⟩) 3 3] 22)).drew → (Builtin.append_ #[23, 23] 23 #[.slice A1 l0_1.length co1, .slice (some ⟨wr.heap.size + 1, 0, none⟩) 1 1]).run Try.prog W = .ok (.slice A8 (l0_1.length + 1) co8) w8 := fun W hW => by
    subst hW
    have e : (wr.drew.alloc (.cells #[.int .i64 (x : Int), .int .i64 X, .int .i64 Y] 2)).heap.size = wr.heap.size + 1 := by simp
    rw [e] at hrun
    exact hrun
   have b78 := (hg8.block B (by have := HBX.out; simp; omega) HBA.out).trans (blk_alloc (blk_drew B7.out) _)
   have b18 := (hg8.block (w.heap.size + 1) (by have := HBY.out; simp; omega) HBR.out).trans (blk_alloc (blk_drew B1.out) _)
   have hr8 := Kd.R_step (Kd.R_tight rfl (Kd.R_alloc (Kd.R_drew O0.out) (.cells #[.int .i64 (x : Int), .int .i64 X, .int .i64 Y] 2))) (fun k ho hk => hg8.block k hk (fun e => HGA.out (ho.symm.trans e)))
   have cz := (blk_cell b78 1).trans rfl
   have fz := blk_frozen b78 1
   have S8 := Aside0.mk hs8
   have R8 := Aside0.mk hr8
   have B78 := Aside0.mk b78
   have B18 := Aside0.mk b18
   have HB8 := Aside0.mk hb8
   have HRN := Aside0.mk hrun'
   clear hs8 hr8 b78 b18 hb8 hrun hrun'
   refine start_ (n := 19) (S := fun w' => w'.cell? ⟨B, 1, none⟩ = some (.slice A1 l0_1.length co1) ∧ w'.cell? ⟨w.heap.size, 0, none⟩ = some (.slice (some ad0) l0_0.length c0_0) ∧ w'.cell? (ad0.add i) = some (.int .i64 X) ∧ w'.cell? (ad0.add i1) = some (.int .i64 Y)) (ds := [18]) #[false, false, false, false, false, false, false, false, false, false, false, false, false, false, false, false, false, false, false] (by kernel_rfl) rfl rfl ⟨c71, c00, x0, x1⟩ (fun hHeld => ?_); refine with_tabW fork_tab7 fork_bits7 (fun HT_ HW_ => ?_)
   refine pure_ (i := 0) (N := some 26) (v := ?_) (a' := ?_) #[true, false, false, false, false, false, false, false, false, false, false, false, false, false, false, false, false, false, false] rfl rfl (any_of HT_.out (by kernel_rfl)) (fun _ _ _ h => h) (Or.inl ⟨by rfl, ?_⟩) ?_ ?_
   rotate_left
   ·intro w'; go_simp; with_reducible rfl
   rotate_left
   ·simp only [Act.put, List.setIfInBounds_toArray, List.set_cons_zero, List.set_cons_succ, i64_w, i32_w]; rfl
   refine pure_ (i := 2) (N := some 28) (v := ?_) (a' := ?_) #[true, false, true, false, false, false, false, false, false, false, false, false, false, false, false, false, false, false, false] rfl rfl (any_of HT_.out (by kernel_rfl)) (fun _ _ _ h => h) (Or.inl ⟨by rfl, ?_⟩) ?_ ?_
   rotate_left
   ·intro w'; go_simp; with_reducible rfl
   rotate_left
   ·simp only [Act.put, List.setIfInBounds_toArray, List.set_cons_zero, List.set_cons_succ, i64_w, i32_w]; rfl
   refine pure_ (i := 3) (N := some 29) (v := ?_) (a' := ?_) #[true, false, true, true, false, false, false, false, false, false, false, false, false, false, false, false, false, false, false] rfl rfl (any_of HT_.out (by kernel_rfl)) (fun _ _ _ h => h) (Or.inl ⟨by rfl, ?_⟩) ?_ ?_
   rotate_left
   ·intro w'; go_simp; with_reducible rfl
   rotate_left
   ·simp only [Act.put, List.setIfInBounds_toArray, List.set_cons_zero, List.set_cons_succ, i64_w, i32_w]; rfl
   refine pure_ (i := 5) (N := some 31) (v := ?_) (a' := ?_) #[true, false, true, true, false, true, false, false, false, false, false, false, false, false, false, false, false, false, false] rfl rfl (any_of HT_.out (by kernel_rfl)) (fun _ _ _ h => h) (Or.inl ⟨by rfl, ?_⟩) ?_ ?_
   rotate_left
   ·intro w'; go_simp; with_reducible rfl
   rotate_left
   ·simp only [Act.put, List.setIfInBounds_toArray, List.set_cons_zero, List.set_cons_succ, i64_w, i32_w]; rfl
   refine pure_ (i := 8) (N := some 34) (v := ?_) (a' := ?_) #[true, false, true, true, false, true, false, false, true, false, false, false, false, false, false, false, false, false, false] rfl rfl (any_of HT_.out (by kernel_rfl)) (fun _ _ _ h => h) (Or.inl ⟨by rfl, ?_⟩) ?_ ?_
   rotate_left
   ·intro w'; go_simp; with_reducible rfl
   rotate_left
   ·simp only [Act.put, List.setIfInBounds_toArray, List.set_cons_zero, List.set_cons_succ, i64_w, i32_w]; rfl
   refine pure_ (i := 10) (N := some 36) (v := ?_) (a' := ?_) #[true, false, true, true, false, true, false, false, true, false, true, false, false, false, false, false, false, false, false] rfl rfl (any_of HT_.out (by kernel_rfl)) (fun _ _ _ h => h) (Or.inl ⟨by rfl, ?_⟩) ?_ ?_
   rotate_left
   ·intro w'; go_simp; with_reducible rfl
   rotate_left
   ·simp only [Act.put, List.setIfInBounds_toArray, List.set_cons_zero, List.set_cons_succ, i64_w, i32_w]; rfl
   refine pure_ (i := 11) (N := some 37) (v := ?_) (a' := ?_) #[true, false, true, true, false, true, false, false, true, false, true, true, false, false, false, false, false, false, false] rfl rfl (any_of HT_.out (by kernel_rfl)) (fun _ _ _ h => h) (Or.inl ⟨by rfl, ?_⟩) ?_ ?_
   rotate_left
   ·intro w'; go_simp; with_reducible rfl
   rotate_left
   ·simp only [Act.put, List.setIfInBounds_toArray, List.set_cons_zero, List.set_cons_succ, i64_w, i32_w]; rfl
   refine take_ (i := 1) (N := some 27) (v := ?_) (a' := ?_) #[true, true, true, true, false, true, false, false, true, false, true, true, false, false, false, false, false, false, false] rfl rfl (take_ofW HT_.out HW_.out (by kernel_rfl)) (fun _ _ _ h => h) (Or.inl ⟨by rfl, ?_⟩) hHeld ?_ ?_
   rotate_left
   ·rintro w' ⟨s0_, s1_, s2_, s3_⟩; go_simp; with_reducible rfl
   rotate_left
   ·simp only [Act.put, List.setIfInBounds_toArray, List.set_cons_zero, List.set_cons_succ, i64_w, i32_w]; rfl
   refine take_ (i := 4) (N := some 30) (v := ?_) (a' := ?_) #[true, true, true, true, true, true, false, false, true, false, true, true, false, false, false, false, false, false, false] rfl rfl (take_ofW HT_.out HW_.out (by kernel_rfl)) (fun _ _ _ h => h) (Or.inl ⟨by rfl, ?_⟩) hHeld ?_ ?_
   rotate_left
   ·rintro w' ⟨s0_, s1_, s2_, s3_⟩; go_simp; with_reducible rfl
   rotate_left
   ·simp only [Act.put, List.setIfInBounds_toArray, List.set_cons_zero, List.set_cons_succ, i64_w, i32_w]; rfl
   refine pure_ (i := 6) (N := some 32) (v := ?_) (a' := ?_) #[true, true, true, true, true, true, true, false, true, false, true, true, false, false, false, false, false, false, false] rfl rfl (any_of HT_.out (by kernel_rfl)) (fun _ _ _ h => h) (Or.inl ⟨by rfl, ?_⟩) ?_ ?_
   rotate_left
   ·intro w'; go_simp; with_reducible rfl
   rotate_left
   ·simp only [Act.put, List.setIfInBounds_toArray, List.set_cons_zero, List.set_cons_succ, i64_w, i32_w]; rfl
   refine take_ (i := 7) (N := some 33) (v := ?_) (a' := ?_) #[true, true, true, true, true, true, true, true, true, false, true, true, false, false, false, false, false, false, false] rfl rfl (take_ofW HT_.out HW_.out (by kernel_rfl)) (fun _ _ _ h => h) (Or.inl ⟨by rfl, ?_⟩) hHeld ?_ ?_
   rotate_left
   ·rintro w' ⟨s0_, s1_, s2_, s3_⟩; go_simp; with_reducible rfl
   rotate_left
   ·simp only [Act.put, List.setIfInBounds_toArray, List.set_cons_zero, List.set_cons_succ, i64_w, i32_w]; rfl
   refine take_ (i := 9) (N := some 35) (v := ?_) (a' := ?_) #[true, true, true, true, true, true, true, true, true, true, true, true, false, false, false, false, false, false, false] rfl rfl (take_ofW HT_.out HW_.out (by kernel_rfl)) (fun _ _ _ h => h) (Or.inl ⟨by rfl, ?_⟩) hHeld ?_ ?_
   rotate_left
   ·rintro w' ⟨s0_, s1_, s2_, s3_⟩; go_simp; with_reducible rfl
   rotate_left
   ·simp only [Act.put, List.setIfInBounds_toArray, List.set_cons_zero, List.set_cons_succ, i64_w, i32_w]; rfl
   refine pure_ (i := 12) (N := some 38) (v := ?_) (a' := ?_) #[true, true, true, true, true, true, true, true, true, true, true, true, true, false, false, false, false, false, false] rfl rfl (any_of HT_.out (by kernel_rfl)) (fun _ _ _ h => h) (Or.inl ⟨by rfl, ?_⟩) ?_ ?_
   rotate_left
   ·intro w'; go_simp; with_reducible rfl
   rotate_left
   ·simp only [Act.put, List.setIfInBounds_toArray, List.set_cons_zero, List.set_cons_succ, i64_w, i32_w]; rfl
   refine take_ (i := 13) (N := some 39) (v := ?_) (a' := ?_) #[true, true, true, true, true, true, true, true, true, true, true, true, true, true, false, false, false, false, false] rfl rfl (take_ofW HT_.out HW_.out (by kernel_rfl)) (fun _ _ _ h => h) (Or.inl ⟨by rfl, ?_⟩) hHeld ?_ ?_
   rotate_left
   ·rintro w' ⟨s0_, s1_, s2_, s3_⟩; go_simp; with_reducible rfl
   rotate_left
   ·simp only [Act.put, List.setIfInBounds_toArray, List.set_cons_zero, List.set_cons_succ, i64_w, i32_w]; rfl
   refine one_ (i := 14) (N := some 40) #[true, true, true, true, true, true, true, true, true, true, true, true, true, true, true, false, false, false, false] rfl rfl (one_of HT_.out (by kernel_rfl)) (by decide) (fun K hK => ?_)
   refine event_step (by rfl) (v := .slice (some ⟨wr.heap.size, 0, none⟩) 3 3) (w1 := wr.drew.alloc (.cells #[.int .i64 (x : Int), .int .i64 X, .int .i64 Y] 2)) ?hr14 ?_
   case hr14 => first | (go_simp; done) | (go_simp; rfl)
   refine hK.out _ _ ⟨(blk_cell (blk_alloc (blk_drew B7.out) _) 1).trans rfl, cell_al (cell_dr c00), cell_al (cell_dr x0), cell_al (cell_dr x1)⟩ (fun hHeld => ?_)
   clear hK K
   refine norm_ (a' := ?_) ?_ ?_
   rotate_left
   ·show Act.put _ (some 40) _ = _; simp only [Act.put, List.setIfInBounds_toArray, List.set_cons_zero, List.set_cons_succ, i64_w, i32_w]; rfl
   refine one_ (i := 15) (N := some 41) #[true, true, true, true, true, true, true, true, true, true, true, true, true, true, true, true, false, false, false] rfl rfl (one_of HT_.out (by kernel_rfl)) (by decide) (fun K hK => ?_)
   refine event_step (by rfl) (v := .slice (some ⟨wr.heap.size + 1, 0, none⟩) 1 1) (w1 := (wr.drew.alloc (.cells #[.int .i64 (x : Int), .int .i64 X, .int .i64 Y] 2)).alloc (.cells #[.slice (some ⟨wr.heap.size, 0, none⟩) 3 3] 22)) ?hr15 ?_
   case hr15 => first | (go_simp; done) | (go_simp; rfl)
   refine hK.out _ _ ⟨(blk_cell (blk_alloc (blk_alloc (blk_drew B7.out) _) _) 1).trans rfl, cell_al (cell_al (cell_dr c00)), cell_al (cell_al (cell_dr x0)), cell_al (cell_al (cell_dr x1))⟩ (fun hHeld => ?_)
   clear hK K
   refine norm_ (a' := ?_) ?_ ?_
   rotate_left
   ·show Act.put _ (some 41) _ = _; simp only [Act.put, List.setIfInBounds_toArray, List.set_cons_zero, List.set_cons_succ, i64_w, i32_w]; rfl
   refine one_ (i := 16) (N := some 42) #[true, true, true, true, true, true, true, true, true, true, true, true, true, true, true, true, true, false, false] rfl rfl (one_of HT_.out (by kernel_rfl)) (by decide) (fun K hK => ?_)
   refine event_step (by rfl) (v := .slice A8 (l0_1.length + 1) co8) (w1 := w8) ?hr16 ?_
   case hr16 => exact append_exec (by rfl) (by rfl) (by rfl) (HRN.out _ rfl)
   refine hK.out _ _ ⟨(blk_cell B78.out 1).trans rfl, hg8.cell (cell_al (cell_dr c00)) (hAW _ (by show w.heap.size < _; omega)), hg8.cell (cell_al (cell_dr x0)) (hAW _ (by omega)), hg8.cell (cell_al (cell_dr x1)) (hAW _ (by omega))⟩ (fun hHeld => ?_)
   clear hK K
   refine norm_ (a' := ?_) ?_ ?_
   rotate_left
   ·show Act.put _ (some 42) _ = _; simp only [Act.put, List.setIfInBounds_toArray, List.set_cons_zero, List.set_cons_succ, i64_w, i32_w]; rfl
   refine pure_ (i := 17) (N := some 43) (v := ?_) (a' := ?_) #[true, true, true, true, true, true, true, true, true, true, true, true, true, true, true, true, true, true, false] rfl rfl (any_of HT_.out (by kernel_rfl)) (fun _ _ _ h => h) (Or.inl ⟨by rfl, ?_⟩) ?_ ?_
   rotate_left
   ·intro w'; go_simp; with_reducible rfl
   rotate_left
   ·simp only [Act.put, List.setIfInBounds_toArray, List.set_cons_zero, List.set_cons_succ, i64_w, i32_w]; rfl
   refine last_ (i := 18) (N := none) #[true, true, true, true, true, true, true, true, true, true, true, true, true, true, true, true, true, true, true] rfl rfl (one_of HT_.out (by kernel_rfl)) (by decide) (fun K hK => ?_)
   refine skip_ (w1 := ?_) (by rfl) rfl ?_ ?_
   rotate_left
   ·go_simp; rfl
   refine hK.out _ _ ?_
   clear hK K
   refine done_ (done_of HT_.out (by kernel_rfl)) ?_
   all_goals
    have b88 := blk_put B78.out 1 (.slice A8 (l0_1.length + 1) co8) rfl
    have hB9 := Aside0.mk (below_set (j := 1) (v := .slice A8 (l0_1.length + 1) co8) HB8.out (show w.heap.size ≤ B from Nat.le_of_lt (Nat.lt_of_le_of_lt (Nat.le_succ _) (Nat.lt_of_lt_of_le HL0.out HL3B.out))))
    have R9 := Aside0.mk (Kd.R_far (p := ⟨B, 1, none⟩) (Kd.R_tight rfl R8.out) (fun k hk e => by have := HL3.out; have hk : some k = some g := hk; injection hk with hk; have e : k = B := e; omega) (.slice A8 (l0_1.length + 1) co8))
    have S9 := Aside0.mk (Kd.S_far (p := ⟨B, 1, none⟩) (Kd.S_types S8.out B78.out (by decide)) (fun _ hk => hk.2) (.slice A8 (l0_1.length + 1) co8))
    have B19 := Aside0.mk (blk_far B18.out (p := ⟨B, 1, none⟩) (by have := HL0.out; have := HL3B.out; show _ ≠ B; omega) (.slice A8 (l0_1.length + 1) co8))
    have B79 := Aside0.mk b88
    clear b88 cz fz
    generalize (w8.setCell ⟨B, 1, none⟩ (.slice A8 (l0_1.length + 1) co8)) = W9 at R9 S9 B19 B79 hB9 ⊢
    have c70 := (blk_cell B79.out 0).trans rfl
    go_wp2_with fail
    have R10 := Kd.R_alloc R9.out (.cells #[.int .i64 (x : Int)] 2)
    refine (replace_at g W9.heap.size l0_0.length co i j2 _ _ l0_0 (x : Int) _ HJ2.out R10 (by have := HI.out; omega) (by have := H8.out; omega) ((blk_cell (new_at rfl) 0).trans rfl)).mono ?_
    rintro e w10 ⟨rfl, hg10, hr10⟩
    have b20 := (hg10.block (w.heap.size + 1) (Nat.lt_of_lt_of_le (blk_lt B19.out) (by simp)) (fun e => by have := HL0.out; have := GB.out; injection e with e; omega)).trans (blk_alloc B19.out _)
    have b70 := (hg10.block B (Nat.lt_of_lt_of_le (blk_lt B79.out) (by simp)) (fun e => by have := HL3.out; injection e with e; omega)).trans (blk_alloc B79.out _)
    have S10 := Aside0.mk (Kd.S_far (p := ⟨B, 0, none⟩) (Kd.S_types (Kd.S_step (Kd.S_alloc S9.out (.cells #[.int .i64 (x : Int)] 2)) (fun k hk hlt => hg10.block k hlt hk.1)) b70 (by decide)) (fun _ hk => hk.2) (.slice (some ⟨g, 0, none⟩) (l0_0.length - 1) co))
    have R11 := Aside0.mk (Kd.R_far (p := ⟨B, 0, none⟩) hr10 (fun k hk e => by have := HL3.out; have hk : some k = some g := hk; injection hk with hk; have e : k = B := e; omega) (.slice (some ⟨g, 0, none⟩) (l0_0.length - 1) co))
    have hgw : w.heap.size ≤ g := Nat.le_trans (below_size HB.out) GB.out
    have hB10 := (below_alloc hB9.out (.cells #[.int .i64 (x : Int)] 2)).grown hg10 (by have := below_size hB9.out; simp; omega) (fun k hk => by injection hk with hk; omega)
    have cz := (blk_cell b70 0).trans rfl
    have fz := blk_frozen b70 0
    have b71 := blk_put b70 0 (.slice (some ⟨g, 0, none⟩) (l0_0.length - 1) co) rfl
    have b21 := blk_far b20 (p := ⟨B, 0, none⟩) (by have := HL0.out; have := HL3B.out; show _ ≠ B; omega) (.slice (some ⟨g, 0, none⟩) (l0_0.length - 1) co)
    have hB11 := Aside0.mk (below_set (j := 0) (v := .slice (some ⟨g, 0, none⟩) (l0_0.length - 1) co) hB10 (show w.heap.size ≤ B from by have := HL0.out; have := HL3B.out; omega))
    have c170 := (blk_cell b71 0).trans rfl
    have c171 := (blk_cell b71 1).trans rfl
    have z0 := blk_frozen b21 0
    have z1 := blk_frozen b21 1
    have d0 := (blk_cell b21 0).trans rfl
    have d1 := (blk_cell b21 1).trans rfl
    have B21 := Aside0.mk b21
    clear b20 b70 hg10 hr10 b71 b21 hB10 R10 c70
    go_wp2_with fail
    refine bodyPost_ret (results_ct rfl _ _ (w.heap.size + 1) 28 #[.slice (some ⟨g, 0, none⟩) (l0_0.length - 1) co, .slice A8 (l0_1.length + 1) co8] (0, 0) _ rfl (blk_put (cs := #[.slice (some ⟨g, 0, none⟩) (l0_0.length - 1) co, .slice none 0 0]) (blk_put (cs := #[.slice none 0 0, .slice none 0 0]) B21.out 0 _ rfl) 1 _ rfl) Try.underlying28 rfl (by kernel_rfl)) rfl ?_
    refine ⟨_, _, rfl, ?_, ?_, below_set (below_set hB11.out (Nat.le_succ _)) (Nat.le_succ _)⟩
    ·exact Kd.R_lower (Kd.R_mono (Kd.R_far (p := ⟨w.heap.size + 1, 1, none⟩) (Kd.R_far (p := ⟨w.heap.size + 1, 0, none⟩) (Kd.R_types R11.out B21.out (by decide)) (fun _ hk => hk.2) _) (fun _ hk => hk.2) _) (fun _ hk => trivial)) (below_size HB.out)
    ·have hY := HYY.out
     rw [HI1.out] at hY
     rw [← HXX.out, ← hY]
     exact Kd.S_lower (Kd.S_mono (Kd.S_far (p := ⟨w.heap.size + 1, 1, none⟩) (Kd.S_far (p := ⟨w.heap.size + 1, 0, none⟩) (Kd.S_types S10.out B21.out (by decide)) (fun _ hk => hk.2) _) (fun _ hk => hk.2) _) (fun _ hk => hk.1.1.1)) (Nat.le_refl _)
set_option maxHeartbeats 8000000 in
set_option maxRecDepth 100000 in
theorem fork_two (A0_0 : Option Addr) (c0_0 : Nat) (l0_0 : List Int) (A0_1 : Option Addr) (c0_1 : Nat) (l0_1 : List (List Int)) (a1 t : Int) (w : World) (hr0_0 : Kd.C (Kd.int .i64) w A0_0 l0_0.length l0_0) (hc0_0 : l0_0.length ≤ c0_0) (hr0_1 : Kd.C (Kd.slice 2 (Kd.int .i64)) w A0_1 l0_1.length l0_1) (hc0_1 : l0_1.length ≤ c0_1) (h1 : impl_legsFault.f l0_0 l0_1 a1 = some t) (ht : t ≠ 0) :
  Calls Try.prog 57 #[.agg #[.slice A0_0 l0_0.length c0_0, .slice A0_1 l0_1.length c0_1], .int .i64 a1] w fun e w' => e = .returned (.tuple #[.agg #[.slice none 0 0, .slice none 0 0], .int .i64 t]) ∧ Below w.heap.size w w' := by
 have hu28 := Try.underlying28
 have HR0 := Aside0.mk hr0_0
 have HC0 := Aside0.mk hc0_0
 have HR1 := Aside0.mk hr0_1
 have HC1 := Aside0.mk hc0_1
 have H1 := Aside0.mk h1
 have t1 : (t == 0) = false := beq_eq_false_iff_ne.2 ht
 have t2 : (t != 0) = true := bne_iff_ne.2 ht
 clear hr0_0 hc0_0 hr0_1 hc0_1 h1 ht
 go_enter Try.func57, Try.ntmps57
 go_wp2_with fail
 have b1 : ((w.alloc (.cells #[.slice A0_0 l0_0.length c0_0, .slice A0_1 l0_1.length c0_1] 28)).alloc (.cells #[.slice none 0 0, .slice none 0 0] 28)).heap[w.heap.size + 1]? = some (.cells #[.slice none 0 0, .slice none 0 0] 28 (0, 0)) := new_at (by simp)
 have hB : Below w.heap.size w ((w.alloc (.cells #[.slice A0_0 l0_0.length c0_0, .slice A0_1 l0_1.length c0_1] 28)).alloc (.cells #[.slice none 0 0, .slice none 0 0] 28)) := below_alloc (below_alloc (Below.refl _ _) _) _
 generalize ((w.alloc (.cells #[.slice A0_0 l0_0.length c0_0, .slice A0_1 l0_1.length c0_1] 28)).alloc (.cells #[.slice none 0 0, .slice none 0 0] 28)) = W0 at b1 hB ⊢
 refine (impl_legsFault.calls A0_0 c0_0 l0_0 A0_1 c0_1 l0_1 a1 t _ (Kd.C_below HR0.out hB) HC0.out (Kd.C_below HR1.out hB) HC1.out H1.out).mono ?_
 rintro e w1 ⟨rfl, hb1⟩
 have b1 := blk_below b1 hb1
 have hB := below_step hB hb1
 have z0 := blk_frozen b1 0
 have z1 := blk_frozen b1 1
 have d0 := (blk_cell b1 0).trans rfl
 have d1 := (blk_cell b1 1).trans rfl
 have B1 := Aside0.mk b1
 have HB := Aside0.mk hB
 clear b1 hB hb1
 clear b1 hB
 go_wp2_with fail
 refine bodyPost_ret (results_ct rfl _ _ (w.heap.size + 1) 28 #[.slice none 0 0, .slice none 0 0] (0, 0) _ rfl (blk_put (cs := #[.slice none 0 0, .slice none 0 0]) (blk_put (cs := #[.slice none 0 0, .slice none 0 0]) B1.out 0 _ rfl) 1 _ rfl) Try.underlying28 rfl (by kernel_rfl)) rfl ?_
 exact ⟨rfl, below_set (below_set HB.out (Nat.le_succ _)) (Nat.le_succ _)⟩
def impl_ForkLegs.f (k : Nat) (l0_0 : List Int) (l0_1 : List (List Int)) (a1 : Int) : Option (List Int × (List (List Int)) × Int) := (impl_legsFault.f l0_0 l0_1 a1).bind fun t => if t = 0 then (impl_cloneWeb.f k l0_0 l0_1).bind fun b => (if 0 ≤ a1 ∧ a1 + 1 < (l0_0.length : Int) ∧ b = (l0_0, l0_1) ∧ isWebC l0_0 l0_1 = true ∧ wfW l0_0 l0_1 = true then some (l0_0.take a1.toNat ++ [((freshN (inc l0_0 l0_1) : Nat) : Int)] ++ l0_0.drop (a1.toNat + 2), l0_1 ++ [[((freshN (inc l0_0 l0_1) : Nat) : Int), l0_0.getD a1.toNat 0, l0_0.getD (a1.toNat + 1) 0]], 0) else none) else some ([], [], t)
theorem impl_ForkLegs.calls (k : Nat) (A0_0 : Option Addr) (c0_0 : Nat) (l0_0 : List Int) (A0_1 : Option Addr) (c0_1 : Nat) (l0_1 : List (List Int)) (a1 : Int) (r1 : List Int) (r2 : List (List Int)) (r3 : Int) (w : World) (hr0_0 : Kd.C (Kd.int .i64) w A0_0 l0_0.length l0_0) (hc0_0 : l0_0.length ≤ c0_0) (hr0_1 : Kd.C (Kd.slice 2 (Kd.int .i64)) w A0_1 l0_1.length l0_1) (hc0_1 : l0_1.length ≤ c0_1) (h : impl_ForkLegs.f k l0_0 l0_1 a1 = some (r1, r2, r3)) :
  Calls Try.prog 57 #[.agg #[.slice A0_0 l0_0.length c0_0, .slice A0_1 l0_1.length c0_1], .int .i64 a1] w fun e w' => ∃ v0_ v1_ : Value, e = .returned (.tuple #[.agg #[v0_, v1_], .int .i64 r3]) ∧ Kd.R (Kd.int .i64) 2 w' w.heap.size (fun _ => True) v0_ r1 ∧ Kd.S (Kd.slice 2 (Kd.int .i64)) 22 w' w.heap.size (fun k_ => some k_ ≠ (v0_ : Value).ownBlock) v1_ r2 ∧ Below w.heap.size w w' := by
 unfold impl_ForkLegs.f at h
 obtain ⟨t, ht, h⟩ := Option.bind_eq_some_iff.1 h
 by_cases g : t = 0
 ·rw [if_pos g] at h
  subst g
  obtain ⟨u, hu, h⟩ := Option.bind_eq_some_iff.1 h
  by_cases q : 0 ≤ a1 ∧ a1 + 1 < (l0_0.length : Int) ∧ u = (l0_0, l0_1) ∧ isWebC l0_0 l0_1 = true ∧ wfW l0_0 l0_1 = true
  ·rw [if_pos q] at h
   simp only [Option.some.injEq, Prod.mk.injEq] at h
   obtain ⟨rfl, rfl, rfl⟩ := h
   obtain ⟨i, rfl⟩ : ∃ i : Nat, a1 = (i : Int) := ⟨a1.toNat, by omega⟩
   obtain ⟨q0, q1, rfl, q2, q3⟩ := q
   rw [Int.toNat_natCast]
   exact fork_one k A0_0 c0_0 l0_0 A0_1 c0_1 l0_1 i w hr0_0 hc0_0 hr0_1 hc0_1 ht hu (by omega) q2 q3
  ·rw [if_neg q] at h; exact absurd h (by simp)
 ·rw [if_neg g] at h
  simp only [Option.some.injEq, Prod.mk.injEq] at h
  obtain ⟨rfl, rfl, rfl⟩ := h
  refine (fork_two A0_0 c0_0 l0_0 A0_1 c0_1 l0_1 a1 t w hr0_0 hc0_0 hr0_1 hc0_1 ht g).mono ?_
  rintro e w' ⟨rfl, hb⟩
  exact ⟨_, _, rfl, Kd.R_nil _ _ _ _ _, Kd.S_nil _ _ _ _ _, hb⟩
end Go.Proofs.Ytnlhhbnoccobmaa.F
end
section
namespace Go.Proofs.Ytnlhhbnoccobmaa.F
open Go.RowKit Go.Proofs.YtnlhhbnoccobmaaW.PrintWords Go.Proofs.YtnlhhbnoccobmaaW.PrintLast Go.Proofs.YtnlhhbnoccobmaaW.PrintMore
attribute [local go_sem] max2_int min2_int max_two min_two max_three min_three max_four min_four   
set_option linter.unusedVariables false
set_option linter.unusedSimpArgs false
open Go.Proofs.Ytnlhhbnoccobmaa.Mem
theorem calls_eqForkLegs {P : Program} {f : FuncId} {xs xs' : Array Value} {w : World} {Q : Ending → World → Prop} (h : xs' = xs) (hc : Calls P f xs w Q) : Calls P f xs' w Q := h ▸ hc
set_option maxHeartbeats 16000000 in
set_option maxRecDepth 100000 in
theorem ForkLegs_returns (k0 k1 k2 k3 k4 k5 k6 k7 k8 k9 ka : Nat) (A0 : Option Addr) (c0 : Nat) (l : List Int) (A1 : Option Addr) (c1 : Nat) (L : List (List Int)) (a1 t c : Int) (r1 : List Int) (r2 : List (List Int)) (T0 T U0 U : Int) (m0 n0 : List Int) (M N : List (List Int)) (w : World)
  (hr0 : Kd.C (Kd.int .i64) w A0 l.length l) (hc0 : l.length ≤ c0) (hr1 : Kd.C (Kd.slice 2 (Kd.int .i64)) w A1 L.length L) (hc1 : L.length ≤ c1)
  (e0 : laws_szWeb.f k0 l L 1048576 = some t) (ht : 0 ≤ t) (e1 : laws_toWeb.f k1 l L = some (l, L)) (e2 : spec_ForkLegs.f k2 l L a1 = some (r1, r2, c)) (e3 : impl_ForkLegs.f k3 l L a1 = some (r1, r2, c)) (e4 : laws_eqWeb.f k4 r1 r2 r1 r2 = some true) (e5 : laws_eqWeb.f k5 l L l L = some true)
  (e6 : laws_markInt64S.f k6 l 1 = some (T0, m0)) (e7 : laws_markInt64SS.f k7 L T0 = some (T, M)) (hT : 0 ≤ T) (e8 : laws_markInt64S.f k8 r1 1 = some (U0, n0)) (e9 : laws_markInt64SS.f k9 r2 U0 = some (U, N)) (hU : 0 ≤ U) (ea : laws_heldWeb.f ka n0 N 1 = some U) (hL : L.length ≤ 1000000000) (h2 : r2.length ≤ 1000000000) :
  Calls Try.prog 12 #[.agg #[.slice A0 l.length c0, .slice A1 L.length c1], .int .i64 a1] w fun e w' => e = .returned (.bool true) ∧ Below w.heap.size w w' := by
 have hu25 := Try.underlying25
 have hu28 := Try.underlying28
 have HR0 := Aside0.mk hr0
 have HC0 := Aside0.mk hc0
 have HR1 := Aside0.mk hr1
 have HC1 := Aside0.mk hc1
 have E0 := Aside0.mk e0
 have E1 := Aside0.mk e1
 have E2 := Aside0.mk e2
 have E3 := Aside0.mk e3
 have E4 := Aside0.mk e4
 have E5 := Aside0.mk e5
 have E6 := Aside0.mk e6
 have E7 := Aside0.mk e7
 have E8 := Aside0.mk e8
 have E9 := Aside0.mk e9
 have EA := Aside0.mk ea
 have HL := Aside0.mk hL
 have H2 := Aside0.mk h2
 have t1 : decide (t < 0) = false := decide_eq_false (by omega)
 have t2 : decide (T < 0) = false := decide_eq_false (by omega)
 have t3 : decide (U < 0) = false := decide_eq_false (by omega)
 clear hr0 hc0 hr1 hc1 e0 ht e1 e2 e3 e4 e5 e6 e7 hT e8 e9 hU ea hL h2
 go_enter Try.func12, Try.ntmps12
 go_wp2_with fail
 have b2 := @new_at w (.cells #[.slice A0 l.length c0, .slice A1 L.length c1] 25) _ rfl
 have hB := below_alloc (Below.refl w.heap.size w) (.cells #[.slice A0 l.length c0, .slice A1 L.length c1] 25)
 generalize (w.alloc (.cells #[.slice A0 l.length c0, .slice A1 L.length c1] 25)) = Wa at b2 hB ⊢
 refine (laws_szWeb.calls k0 A0 c0 l A1 c1 L 1048576 t _ (Kd.C_below HR0.out hB) HC0.out (Kd.C_below HR1.out hB) HC1.out E0.out).mono ?_
 rintro e w1 ⟨rfl, hb⟩
 have b2 := blk_below b2 hb
 have HB := Aside0.mk (below_step hB hb)
 have q20 := (blk_cell b2 0).trans rfl
 have q21 := (blk_cell b2 1).trans rfl
 have B2 := Aside0.mk b2
 clear b2 hB hb
 clear b2
 go_wp2_with fail
 refine (laws_toWeb.calls k1 A0 c0 l A1 c1 L l L _ (Kd.C_below HR0.out HB.out) HC0.out (Kd.C_below HR1.out HB.out) HC1.out E1.out).mono ?_
 rintro e w2 ⟨v0, v1, rfl, ho0, ho1, hb⟩
 obtain ⟨X0, d0, rfl, hl0, hC0⟩ := Kd.R_reads ho0
 obtain ⟨X1, d1, rfl, hl1, hC1⟩ := Kd.S_reads ho1
 have B2 := Aside0.mk (blk_below B2.out hb)
 have HB := Aside0.mk (below_step HB.out hb)
 have HX := Aside0.mk (And.intro hl0 (And.intro hC0 (And.intro hl1 hC1)))
 clear ho0 ho1 hb hl0 hC0 hl1 hC1 q20 q21
 go_wp2_with fail
 refine (spec_ForkLegs.calls k2 X0 d0 l X1 d1 L a1 r1 r2 c _ HX.out.2.1 HX.out.1 HX.out.2.2.2 HX.out.2.2.1 E2.out).mono ?_
 rintro e w3 ⟨v0, v1, rfl, ho0, ho1, hb⟩
 obtain ⟨Y0, f0, rfl, hl0, hC0⟩ := Kd.R_reads ho0
 obtain ⟨Y1, f1, rfl⟩ := Kd.N_slice ho1
 have hl1 := (Kd.N_reads' ho1).2.1
 have hC1 := (Kd.N_reads' ho1).2.2
 have HY := Aside0.mk (And.intro hl0 (And.intro hC0 (And.intro hl1 hC1)))
 have B2 := Aside0.mk (blk_below B2.out hb)
 have HB := Aside0.mk (below_step HB.out hb)
 clear ho0 ho1 hb hl0 hC0 hl1 hC1 HX
 have b2 := blk_alloc B2.out (.cells #[.slice Y0 r1.length f0, .slice Y1 r2.length f1] 28)
 have b6 := @new_at w3 (.cells #[.slice Y0 r1.length f0, .slice Y1 r2.length f1] 28) _ rfl
 have hB := below_alloc HB.out (.cells #[.slice Y0 r1.length f0, .slice Y1 r2.length f1] 28)
 have hY0 := Kd.C_alloc HY.out.2.1 (.cells #[.slice Y0 r1.length f0, .slice Y1 r2.length f1] 28)
 have hY1 := Kd.C_alloc HY.out.2.2.2 (.cells #[.slice Y0 r1.length f0, .slice Y1 r2.length f1] 28)
 have q20 := (blk_cell b2 0).trans rfl
 have q21 := (blk_cell b2 1).trans rfl
 have b2 := Aside0.mk b2
 have b6 := Aside0.mk b6
 have hB := Aside0.mk hB
 have hY0 := Aside0.mk hY0
 have hY1 := Aside0.mk hY1
 go_wp2_with fail
 generalize (w3.alloc (.cells #[.slice Y0 r1.length f0, .slice Y1 r2.length f1] 28)) = W3 at b2 b6 hB hY0 hY1 q20 q21 ⊢
 refine (laws_toWeb.calls k1 A0 c0 l A1 c1 L l L W3 (Kd.C_below HR0.out hB.out) HC0.out (Kd.C_below HR1.out hB.out) HC1.out E1.out).mono ?_
 rintro e w4 ⟨v0, v1, rfl, ho0, ho1, hb⟩
 obtain ⟨X0, d0, rfl, hl0, hC0⟩ := Kd.R_reads ho0
 obtain ⟨X1, d1, rfl, hl1, hC1⟩ := Kd.S_reads ho1
 have O4 := Aside0.mk (Kd.R_alloc (Kd.R_mono (ok' := fun k => k < w4.heap.size) (Kd.R_bound ho0) (fun k hk => hk.2.2.1)) (.cells #[.slice X0 l.length d0, .slice X1 L.length d1] 28))
 have S4 := Aside0.mk (Kd.S_alloc (Kd.S_mono (ok' := fun k => some k ≠ (Value.slice X0 l.length d0).ownBlock ∧ k < w4.heap.size) (Kd.S_bound ho1) (fun k hk => ⟨hk.1, hk.2.2.1⟩)) (.cells #[.slice X0 l.length d0, .slice X1 L.length d1] 28))
 have b8 := @new_at w4 (.cells #[.slice X0 l.length d0, .slice X1 L.length d1] 28) _ rfl
 have q80 := (blk_cell b8 0).trans rfl
 have q81 := (blk_cell b8 1).trans rfl
 have B8 := Aside0.mk b8
 have K4 := Aside0.mk (below_alloc hb (.cells #[.slice X0 l.length d0, .slice X1 L.length d1] 28))
 have hX := Aside0.mk (And.intro hl0 (And.intro (Kd.C_alloc hC0 (.cells #[.slice X0 l.length d0, .slice X1 L.length d1] 28)) (And.intro hl1 (Kd.C_alloc hC1 (.cells #[.slice X0 l.length d0, .slice X1 L.length d1] 28)))))
 have Z4 := Aside0.mk (show (w4.alloc (.cells #[.slice X0 l.length d0, .slice X1 L.length d1] 28)).heap.size = w4.heap.size + 1 by simp)
 clear ho0 ho1 hb hl0 hC0 hl1 hC1 q20 q21 b8
 go_wp2_with fail
 generalize (w4.alloc (.cells #[.slice X0 l.length d0, .slice X1 L.length d1] 28)) = W4 at O4 S4 B8 K4 hX Z4 q80 q81 ⊢
 refine (impl_ForkLegs.calls k3 X0 d0 l X1 d1 L a1 r1 r2 c W4 hX.out.2.1 hX.out.1 hX.out.2.2.2 hX.out.2.2.1 E3.out).mono ?_
 rintro e w5 ⟨v0, v1, rfl, ho0, ho1, hb⟩
 obtain ⟨G0, g0, rfl⟩ := Kd.R_slice ho0
 obtain ⟨G1, g1, rfl⟩ := Kd.S_slice ho1
 have O5 := Aside0.mk (Kd.R_alloc (Kd.R_mono (ok' := fun k => W4.heap.size ≤ k ∧ k < w5.heap.size) (Kd.R_bound ho0) (fun k hk => ⟨hk.2.1, hk.2.2.1⟩)) (.cells #[.slice G0 r1.length g0, .slice G1 r2.length g1] 28))
 have S5 := Aside0.mk (Kd.S_alloc (Kd.S_mono (ok' := fun k => some k ≠ (Value.slice G0 r1.length g0).ownBlock ∧ W4.heap.size ≤ k ∧ k < w5.heap.size) (Kd.S_bound ho1) (fun k hk => ⟨hk.1, hk.2.1, hk.2.2.1⟩)) (.cells #[.slice G0 r1.length g0, .slice G1 r2.length g1] 28))
 have L45 := Aside0.mk hb.size
 have b9 := @new_at w5 (.cells #[.slice G0 r1.length g0, .slice G1 r2.length g1] 28) _ rfl
 have K45 := Aside0.mk (below_alloc hb (.cells #[.slice G0 r1.length g0, .slice G1 r2.length g1] 28))
 have K5 := Aside0.mk (below_step K4.out K45.out)
 have b6' := blk_below b6.out K5.out
 have q90 := (blk_cell b9 0).trans rfl
 have q91 := (blk_cell b9 1).trans rfl
 have q60 := (blk_cell b6' 0).trans rfl
 have q61 := (blk_cell b6' 1).trans rfl
 have B9 := Aside0.mk b9
 have Z5 := Aside0.mk (show (w5.alloc (.cells #[.slice G0 r1.length g0, .slice G1 r2.length g1] 28)).heap.size = w5.heap.size + 1 by simp)
 clear ho0 ho1 hb b9 b6' q80 q81
 go_wp2_with fail
 generalize (w5.alloc (.cells #[.slice G0 r1.length g0, .slice G1 r2.length g1] 28)) = W5 at O5 S5 K45 K5 q90 q91 q60 q61 B9 Z5 ⊢
 refine (laws_eqWeb.calls k4 G0 g0 r1 G1 g1 r2 Y0 f0 r1 Y1 f1 r2 true W5 (Kd.R_reads' O5.out).2.2 (Kd.R_reads' O5.out).2.1 (Kd.S_reads' S5.out).2.2 (Kd.S_reads' S5.out).2.1 (Kd.C_below hY0.out K5.out) HY.out.1 (Kd.C_below hY1.out K5.out) HY.out.2.2.1 E4.out).mono ?_
 rintro e w6 ⟨rfl, hb⟩
 have K6 := Aside0.mk (below_step K5.out hb)
 have K56 := Aside0.mk hb
 have b2' := blk_below b2.out K6.out
 have b8' := blk_below B8.out (below_step K45.out hb)
 have q20 := (blk_cell b2' 0).trans rfl
 have q21 := (blk_cell b2' 1).trans rfl
 have q80 := (blk_cell b8' 0).trans rfl
 have q81 := (blk_cell b8' 1).trans rfl
 have B26 := Aside0.mk b2'
 have B86 := Aside0.mk b8'
 clear hb b2' b8' q90 q91 q60 q61
 go_wp2_with fail
 go_region_law (first
  | (refine goes_ Try.func20 (by kernel_rfl) rfl #[.agg #[.slice A0 l.length c0, .slice A1 L.length c1]] (by rfl) rfl rfl (by simp [Act.eval, Act.put]) ?_; refine (laws_toWeb.calls k1 A0 c0 l A1 c1 L l L _ ?s1 HC0.out ?s2 HC1.out E1.out).mono ?_; (case s1 => first | exact Kd.C_below HR0.out (below_step hB.out K6.out) | exact Kd.C_drew (Kd.C_below HR0.out (below_step hB.out K6.out))); (case s2 => first | exact Kd.C_below HR1.out (below_step hB.out K6.out) | exact Kd.C_drew (Kd.C_below HR1.out (below_step hB.out K6.out))); rintro e w7 ⟨v0, v1, rfl, ho0, ho1, hb⟩; obtain ⟨Z0, z0, rfl, hl0, hC0⟩ := Kd.R_reads ho0; obtain ⟨Z1, z1, rfl, hl1, hC1⟩ := Kd.S_reads ho1; have hZ := Aside0.mk (And.intro hl0 (And.intro hC0 (And.intro hl1 hC1))); have K67 : Aside0 (Below w6.heap.size w6 w7) := ⟨below_step (below_drew1 (Below.refl _ _)) hb⟩; have q807 := (blk_cell (blk_below B86.out K67.out) 0).trans rfl; have q817 := (blk_cell (blk_below B86.out K67.out) 1).trans rfl; clear ho0 ho1 hb hl0 hC0 hl1 hC1; refine ⟨_, rfl, ?_⟩)
  | (refine goes_ Try.func22 (by kernel_rfl) rfl #[.agg #[.slice X0 l.length d0, .slice X1 L.length d1], .agg #[.slice Z0 l.length z0, .slice Z1 L.length z1]] (by rfl) rfl rfl (by simp [Act.eval, Act.put]) ?_; refine (laws_eqWeb.calls k5 X0 d0 l X1 d1 L Z0 z0 l Z1 z1 L true _ (Kd.C_below hX.out.2.1 (below_step K45.out (below_step K56.out K67.out))) hX.out.1 (Kd.C_below hX.out.2.2.2 (below_step K45.out (below_step K56.out K67.out))) hX.out.2.2.1 hZ.out.2.1 hZ.out.1 hZ.out.2.2.2 hZ.out.2.2.1 E5.out).mono ?_; rintro e w8 ⟨rfl, hb⟩; have K68 := Aside0.mk (below_step K67.out hb); clear hb; refine ⟨_, rfl, ?_⟩))
 all_goals
  have K8 := Aside0.mk (below_step K6.out K68.out)
  have K48 := Aside0.mk (below_step K45.out (below_step K56.out K68.out))
  have K58 := Aside0.mk (below_step K56.out K68.out)
  have q80 := (blk_cell (blk_below B86.out K68.out) 0).trans rfl
  have q81 := (blk_cell (blk_below B86.out K68.out) 1).trans rfl
  clear q20 q21 q807 q817
  go_wp2_with fail
  refine (markWeb_walk k6 k7 (fun k => some k = (Value.slice X0 l.length d0).ownBlock ∧ k < w4.heap.size) (fun k => some k ≠ (Value.slice X0 l.length d0).ownBlock ∧ k < w4.heap.size) X0 d0 l X1 d1 L 1 T0 T m0 M W3 w8 K8.out HL.out (Kd.R_below (Kd.R_tight2 rfl O4.out) K48.out) (Kd.S_below S4.out K48.out) (fun k h1 h0 => h1.1 h0.1) E6.out E7.out).mono ?_
  rintro e w9 ⟨rfl, _, _, hb9, hk9⟩
  have K9 := Aside0.mk hb9
  have O9 := Aside0.mk (Kd.R_kept (Kd.R_below (Kd.R_tight2 rfl O5.out) K58.out) hk9 (fun k hk h => by have := hk.2.1; have := Z4.out; rcases h with h | h <;> (have := h.2; omega)))
  have S9 := Aside0.mk (Kd.S_kept (Kd.S_below S5.out K58.out) hk9 (fun k hk h => by have := hk.2.1; have := Z4.out; rcases h with h | h <;> (have := h.2; omega)))
  have b9 := blk_kept (blk_below B9.out K58.out) hk9 (fun h => by have := L45.out; have := Z4.out; rcases h with h | h <;> (have := h.2; omega))
  have b6' := blk_below b6.out K9.out
  have q90 := (blk_cell b9 0).trans rfl
  have q91 := (blk_cell b9 1).trans rfl
  have q60 := (blk_cell b6' 0).trans rfl
  have q61 := (blk_cell b6' 1).trans rfl
  have B9' := Aside0.mk b9
  clear hb9 hk9 b9 b6' q80 q81
  go_wp2_with fail
  refine (laws_eqWeb.calls k4 G0 g0 r1 G1 g1 r2 Y0 f0 r1 Y1 f1 r2 true w9 (Kd.R_reads' O9.out).2.2 (Kd.R_reads' O9.out).2.1 (Kd.S_reads' S9.out).2.2 (Kd.S_reads' S9.out).2.1 (Kd.C_below hY0.out K9.out) HY.out.1 (Kd.C_below hY1.out K9.out) HY.out.2.2.1 E4.out).mono ?_
  rintro e w10 ⟨rfl, hb⟩
  have K10 := Aside0.mk (below_step K9.out hb)
  have O10 := Aside0.mk (Kd.R_lower (Kd.R_below O9.out hb) K4.out.size)
  have S10 := Aside0.mk (Kd.S_lower (Kd.S_below S9.out hb) K4.out.size)
  have b9 := blk_below B9'.out hb
  have q90 := (blk_cell b9 0).trans rfl
  have q91 := (blk_cell b9 1).trans rfl
  have B910 := Aside0.mk b9
  clear hb b9 q60 q61
  go_wp2_with fail
  refine (markWeb_walk k8 k9 (fun k => some k = (Value.slice G0 r1.length g0).ownBlock ∧ W4.heap.size ≤ k ∧ k < w5.heap.size) (fun k => some k ≠ (Value.slice G0 r1.length g0).ownBlock ∧ W4.heap.size ≤ k ∧ k < w5.heap.size) G0 g0 r1 G1 g1 r2 1 U0 U n0 N W3 w10 K10.out H2.out O10.out S10.out (fun k h1 h0 => h1.1 h0.1) E8.out E9.out).mono ?_
  rintro e w11 ⟨rfl, hr11, hs11, hb11, hk11⟩
  have K11 := Aside0.mk hb11
  have O11 := Aside0.mk hr11
  have S11 := Aside0.mk hs11
  have l0 := Aside0.mk (Kd.R_reads' hr11).1
  have l1 := Aside0.mk (Kd.S_reads' hs11).1
  have b9 := blk_kept B910.out hk11 (fun h => by rcases h with h | h <;> (have := h.2.2; omega))
  have q90 := (blk_cell b9 0).trans rfl
  have q91 := (blk_cell b9 1).trans rfl
  have B911 := Aside0.mk b9
  clear hr11 hs11 hb11 hk11 b9
  go_wp2_with fail
  refine calls_eqForkLegs (xs := #[.agg #[.slice G0 n0.length g0, .slice G1 N.length g1], .int .i64 1]) (by rw [← l0.out, ← l1.out]) ?_
  refine (laws_heldWeb.calls ka G0 g0 n0 G1 g1 N 1 U w11 (Kd.R_reads' O11.out).2.2 (by rw [← l0.out]; exact (Kd.R_reads' O11.out).2.1) (Kd.S_reads' S11.out).2.2 (by rw [← l1.out]; exact (Kd.S_reads' S11.out).2.1) EA.out).mono ?_
  rintro e w12 ⟨rfl, hb⟩
  have K12 := Aside0.mk (below_step K11.out hb)
  have K1112 := Aside0.mk hb
  have b2' := blk_below b2.out K12.out
  have q20 := (blk_cell b2' 0).trans rfl
  have q21 := (blk_cell b2' 1).trans rfl
  clear hb b2' q90 q91
  go_wp2_with fail
  refine (laws_toWeb.calls k1 A0 c0 l A1 c1 L l L w12 (Kd.C_below HR0.out (below_step hB.out K12.out)) HC0.out (Kd.C_below HR1.out (below_step hB.out K12.out)) HC1.out E1.out).mono ?_
  rintro e w13 ⟨v0, v1, rfl, ho0, ho1, hb⟩
  obtain ⟨V0, p0, rfl, hl0, hC0⟩ := Kd.R_reads ho0
  obtain ⟨V1, p1, rfl, hl1, hC1⟩ := Kd.S_reads ho1
  have hV := Aside0.mk (And.intro hl0 (And.intro hC0 (And.intro hl1 hC1)))
  have K13 := Aside0.mk (below_step K12.out hb)
  have K1113 := Aside0.mk (below_step K1112.out hb)
  clear ho0 ho1 hb hl0 hC0 hl1 hC1 q20 q21
  go_wp2_with fail
  refine (impl_ForkLegs.calls k3 V0 p0 l V1 p1 L a1 r1 r2 c w13 hV.out.2.1 hV.out.1 hV.out.2.2.2 hV.out.2.2.1 E3.out).mono ?_
  rintro e w14 ⟨v0, v1, rfl, ho0, ho1, hb⟩
  obtain ⟨D0, s0, rfl, hl0, hC0⟩ := Kd.R_reads ho0
  obtain ⟨D1, s1, rfl, hl1, hC1⟩ := Kd.S_reads ho1
  have hD := Aside0.mk (And.intro hl0 (And.intro (Kd.C_alloc hC0 (.cells #[.slice D0 r1.length s0, .slice D1 r2.length s1] 28)) (And.intro hl1 (Kd.C_alloc hC1 (.cells #[.slice D0 r1.length s0, .slice D1 r2.length s1] 28)))))
  have K14 := Aside0.mk (below_alloc (below_step K13.out hb) (.cells #[.slice D0 r1.length s0, .slice D1 r2.length s1] 28))
  have K1114 := Aside0.mk (below_alloc (below_step K1113.out hb) (.cells #[.slice D0 r1.length s0, .slice D1 r2.length s1] 28))
  have b14 := @new_at w14 (.cells #[.slice D0 r1.length s0, .slice D1 r2.length s1] 28) _ rfl
  have b6' := blk_below b6.out K14.out
  have qe0 := (blk_cell b14 0).trans rfl
  have qe1 := (blk_cell b14 1).trans rfl
  have q60 := (blk_cell b6' 0).trans rfl
  have q61 := (blk_cell b6' 1).trans rfl
  clear ho0 ho1 hb hl0 hC0 hl1 hC1 b14 b6'
  go_wp2_with fail
  generalize (w14.alloc (.cells #[.slice D0 r1.length s0, .slice D1 r2.length s1] 28)) = W14 at hD K14 K1114 qe0 qe1 q60 q61 ⊢
  refine (laws_eqWeb.calls k4 D0 s0 r1 D1 s1 r2 Y0 f0 r1 Y1 f1 r2 true W14 hD.out.2.1 hD.out.1 hD.out.2.2.2 hD.out.2.2.1 (Kd.C_below hY0.out K14.out) HY.out.1 (Kd.C_below hY1.out K14.out) HY.out.2.2.1 E4.out).mono ?_
  rintro e w15 ⟨rfl, hb⟩
  have K15 := Aside0.mk (below_step K14.out hb)
  have K1115 := Aside0.mk (below_step K1114.out hb)
  have b9 := blk_below B911.out K1115.out
  have q90 := (blk_cell b9 0).trans rfl
  have q91 := (blk_cell b9 1).trans rfl
  clear hb b9 qe0 qe1 q60 q61
  go_wp2_with fail
  refine calls_eqForkLegs (xs := #[.agg #[.slice G0 n0.length g0, .slice G1 N.length g1], .int .i64 1]) (by rw [← l0.out, ← l1.out]) ?_
  refine (laws_heldWeb.calls ka G0 g0 n0 G1 g1 N 1 U w15 (Kd.C_below (Kd.R_reads' O11.out).2.2 K1115.out) (by rw [← l0.out]; exact (Kd.R_reads' O11.out).2.1) (Kd.C_below (Kd.S_reads' S11.out).2.2 K1115.out) (by rw [← l1.out]; exact (Kd.S_reads' S11.out).2.1) EA.out).mono ?_
  rintro e w16 ⟨rfl, hb⟩
  have K16 := Aside0.mk (below_step K15.out hb)
  clear hb q90 q91
  go_wp2
  go_ret
  exact ⟨rfl, below_step hB.out K16.out⟩
set_option maxHeartbeats 4000000 in
set_option maxRecDepth 100000 in
theorem ForkLegs_big (k0 : Nat) (A0 : Option Addr) (c0 : Nat) (l : List Int) (A1 : Option Addr) (c1 : Nat) (L : List (List Int)) (a1 t : Int) (w : World)
  (hr0 : Kd.C (Kd.int .i64) w A0 l.length l) (hc0 : l.length ≤ c0) (hr1 : Kd.C (Kd.slice 2 (Kd.int .i64)) w A1 L.length L) (hc1 : L.length ≤ c1) (e0 : laws_szWeb.f k0 l L 1048576 = some t) (ht : t < 0) :
  Calls Try.prog 12 #[.agg #[.slice A0 l.length c0, .slice A1 L.length c1], .int .i64 a1] w fun e w' => e = .returned (.bool true) ∧ Below w.heap.size w w' := by
 have hu25 := Try.underlying25
 have HR0 := Aside0.mk hr0
 have HR1 := Aside0.mk hr1
 have t1 : decide (t < 0) = true := decide_eq_true ht
 clear hr0 hr1 ht
 go_enter Try.func12, Try.ntmps12
 go_wp2_with fail
 have hB := below_alloc (Below.refl w.heap.size w) (.cells #[.slice A0 l.length c0, .slice A1 L.length c1] 25)
 generalize (w.alloc (.cells #[.slice A0 l.length c0, .slice A1 L.length c1] 25)) = Wa at hB ⊢
 refine (laws_szWeb.calls k0 A0 c0 l A1 c1 L 1048576 t _ (Kd.C_below HR0.out hB) hc0 (Kd.C_below HR1.out hB) hc1 e0).mono ?_
 rintro e w1 ⟨rfl, hb⟩
 have HB := Aside0.mk (below_step hB hb)
 clear hB hb
 go_wp2
 go_ret
 exact ⟨rfl, HB.out⟩
def laws_FnExactForkLegs.Good (l : List Int) (L : List (List Int)) (a1 : Int) : Prop := (∃ k t, laws_szWeb.f k l L 1048576 = some t ∧ t < 0) ∨ ∃ (k0 k1 k2 k3 k4 k5 k6 k7 k8 k9 ka : Nat) (t c : Int) (r1 : List Int) (r2 : List (List Int)) (T0 T U0 U : Int) (m0 n0 : List Int) (M N : List (List Int)), laws_szWeb.f k0 l L 1048576 = some t ∧ 0 ≤ t ∧ laws_toWeb.f k1 l L = some (l, L) ∧ spec_ForkLegs.f k2 l L a1 = some (r1, r2, c) ∧ impl_ForkLegs.f k3 l L a1 = some (r1, r2, c) ∧ laws_eqWeb.f k4 r1 r2 r1 r2 = some true ∧ laws_eqWeb.f k5 l L l L = some true ∧
  laws_markInt64S.f k6 l 1 = some (T0, m0) ∧ laws_markInt64SS.f k7 L T0 = some (T, M) ∧ 0 ≤ T ∧ laws_markInt64S.f k8 r1 1 = some (U0, n0) ∧ laws_markInt64SS.f k9 r2 U0 = some (U, N) ∧ 0 ≤ U ∧ laws_heldWeb.f ka n0 N 1 = some U ∧ L.length ≤ 1000000000 ∧ r2.length ≤ 1000000000
theorem laws_FnExactForkLegs.calls (A0 : Option Addr) (c0 : Nat) (l : List Int) (A1 : Option Addr) (c1 : Nat) (L : List (List Int)) (a1 : Int) (r : Bool) (w : World)
  (hr0 : Kd.C (Kd.int .i64) w A0 l.length l) (hc0 : l.length ≤ c0) (hr1 : Kd.C (Kd.slice 2 (Kd.int .i64)) w A1 L.length L) (hc1 : L.length ≤ c1) (h : laws_FnExactForkLegs.Good l L a1 ∧ r = true) :
  Calls Try.prog 12 #[.agg #[.slice A0 l.length c0, .slice A1 L.length c1], .int .i64 a1] w fun e w' => e = .returned (.bool r) ∧ Below w.heap.size w w' := by
 obtain ⟨h, rfl⟩ := h
 rcases h with ⟨k, t, e0, ht⟩ | ⟨k0, k1, k2, k3, k4, k5, k6, k7, k8, k9, ka, t, c, r1, r2, T0, T, U0, U, m0, n0, M, N, e0, ht, e1, e2, e3, e4, e5, e6, e7, hT, e8, e9, hU, ea, hL, h2⟩
 ·exact ForkLegs_big k A0 c0 l A1 c1 L a1 t w hr0 hc0 hr1 hc1 e0 ht
 ·exact ForkLegs_returns k0 k1 k2 k3 k4 k5 k6 k7 k8 k9 ka A0 c0 l A1 c1 L a1 t c r1 r2 T0 T U0 U m0 n0 M N w hr0 hc0 hr1 hc1 e0 ht e1 e2 e3 e4 e5 e6 e7 hT e8 e9 hU ea hL h2
end Go.Proofs.Ytnlhhbnoccobmaa.F
end
section
namespace Go.Proofs.Ytnlhhbnoccobmaa.F
open Go.RowKit Go.Proofs.YtnlhhbnoccobmaaW.PrintWords Go.Proofs.YtnlhhbnoccobmaaW.PrintLast Go.Proofs.YtnlhhbnoccobmaaW.PrintMore
attribute [local go_sem] max2_int min2_int max_two min_two max_three min_three max_four min_four   
set_option linter.unusedVariables false
set_option linter.unusedSimpArgs false
end Go.Proofs.Ytnlhhbnoccobmaa.F
end
section
namespace Go.Proofs.Ytnlhhbnoccobmaa.Pure
open Go.RowKit Go.Proofs.Ytnlhhbnoccobmaa.F Go.Proofs.YtnlhhbnoccobmaaW.PrintWords Go.Proofs.YtnlhhbnoccobmaaW.PrintLast
theorem Ev_succ {α : Type} {g : Nat → Option α} {r : α} (h : Ev (fun k => g (k + 1)) r) : Ev g r := Ev.step (fun _ => rfl) h
def marks (s n : Nat) : List Int := (List.range' s n).map fun i : Nat => (i : Int)
theorem marks_len (s n : Nat) : (marks s n).length = n := by simp [marks]
theorem marks_snoc (s n : Nat) : marks s (n + 1) = marks s n ++ [((s + n : Nat) : Int)] := by
  unfold marks
  rw [List.range'_concat, List.map_append]; simp
theorem mark_l0 (s : Nat) (hs : s ≤ 1152921504606846976) : ∀ (t : List Int) (n : Nat), n + t.length ≤ 1152921504606846976 → Ev (fun k => laws_markInt64S.l0 k (marks s n ++ t) ((s + n : Nat) : Int) (n : Int)) (((s + (n + t.length) : Nat) : Int), marks s (n + t.length)) := by
  intro t
  induction t with
  | nil =>
    intro n hn
    refine Ev.step (f := fun _ => some _) (fun k => ?_) (Ev.now _)
    have hl := marks_len s n
    simp only [laws_markInt64S.l0]
    rw [if_neg (by rw [List.append_nil, hl]; omega)]; simp
  | cons x t ih =>
    intro n hn
    have hl := marks_len s n
    rw [List.length_cons] at hn ⊢
    have h := ih (n + 1) (by omega)
    rw [show n + (t.length + 1) = n + 1 + t.length from by omega]
    refine Ev.step (fun k => ?_) h
    simp only [laws_markInt64S.l0]
    rw [if_pos (by simp [hl]; omega), if_pos (by omega), Int.toNat_natCast, wS (by omega), wS (by omega)]
    rw [List.set_append_right _ _ (by omega), hl, Nat.sub_self, List.set_cons_zero, marks_snoc, List.append_assoc, List.singleton_append]; rfl
theorem held_l0 (s N : Nat) (hb : s + N ≤ 2305843009213693952) : ∀ d n, n + d = N → Ev (fun k => laws_heldInt64S.l0 k (marks s N) ((s + n : Nat) : Int) (n : Int)) ((s + N : Nat) : Int) := by
  intro d
  induction d with
  | zero =>
    intro n hn
    refine Ev.step (f := fun _ => some _) (fun k => ?_) (Ev.now _)
    have hl := marks_len s N
    simp only [laws_heldInt64S.l0]
    rw [if_neg (by rw [hl]; omega)]
    rw [show n = N from by omega]
  | succ d ih =>
    intro n hn
    have hl := marks_len s N
    have hg : (marks s N).getD n 0 = ((s + n : Nat) : Int) := by
      rw [List.getD_eq_getElem?_getD, List.getElem?_eq_getElem (by omega)]
      simp [marks]
    refine Ev.step (fun k => ?_) (ih (n + 1) (by omega))
    simp only [laws_heldInt64S.l0]
    rw [if_pos (by rw [hl]; omega), if_pos (by omega), rdN, if_pos hg, wS (by omega), wS (by omega)]; rfl
theorem own_f (l : List Int) (hb : l.length < 17592186044416) : spec_l01Own.f l = some l := by
  unfold spec_l01Own.f
  rw [Option.bind_some, if_pos (by simpa using hb)]; rfl
end Go.Proofs.Ytnlhhbnoccobmaa.Pure
end
section
namespace Go.Proofs.Ytnlhhbnoccobmaa.Pure
open Go.RowKit Go.Proofs.Ytnlhhbnoccobmaa.F Go.Proofs.YtnlhhbnoccobmaaW.PrintWords Go.Proofs.YtnlhhbnoccobmaaW.PrintLast
set_option linter.unusedVariables false
set_option linter.unusedSimpArgs false
theorem lrdRow (rows : List (List Int)) (a : Nat) : rd_L1 rows (a : Int) = rows.getD a [] := by unfold rd_L1; rw [Int.toNat_natCast]
structure Small (L : List (List Int)) : Prop where
  len : L.length ≤ 1048576
  row : ∀ l ∈ L, l.length ≤ 1048576
theorem Small.at {L : List (List Int)} (h : Small L) (j : Nat) : (L.getD j []).length ≤ 1048576 := by
  rw [List.getD_eq_getElem?_getD]
  cases e : L[j]? with
  | none => simp
  | some l => exact h.row l (List.mem_of_getElem? e)
theorem toSS_ev {L : List (List Int)} (h : Small L) : Ev (fun k => laws_toInt64SS.f k L) L := by
  have hl := h.len
  have key : ∀ d n, n + d = L.length → Ev (fun k => laws_toInt64SS.l0 k L (L.take n ++ List.replicate d []) (n : Int)) L := by
    intro d
    induction d with
    | zero =>
      intro n hn
      rw [List.take_of_length_le (by omega), List.replicate_zero, List.append_nil]
      refine Ev_succ ?_
      simp only [laws_toInt64SS.l0]
      exact Ev.congr (fun k => if_neg (by omega)) (Ev.now _)
    | succ d ih =>
      intro n hn
      have htl : (L.take n).length = n := by rw [List.length_take]; omega
      refine Ev_succ ?_
      simp only [laws_toInt64SS.l0]
      refine Ev.congr (fun k => if_pos (by omega)) (Ev.congr (fun k => if_pos (by omega)) ?_)
      rw [lrdRow]
      refine Ev.bind (toS_ev _ (by have := h.at n; omega)) ?_
      refine Ev.congr (fun k => if_pos (by rw [List.length_append, htl, List.length_replicate]; omega)) ?_
      have := ih (n + 1) (by omega)
      rw [Int.toNat_natCast, wS (n := n) (by omega), List.set_append_right _ _ (by omega), htl, Nat.sub_self, List.replicate_succ, List.set_cons_zero]
      have ht : L.take (n + 1) = L.take n ++ [L.getD n []] := by
        rw [List.take_succ_eq_append_getElem (by omega), List.getD_eq_getElem?_getD, List.getElem?_eq_getElem (by omega)]; rfl
      rw [ht, List.append_assoc] at this
      exact this
  have := key L.length 0 (by omega)
  rw [List.take_zero, List.nil_append] at this
  unfold laws_toInt64SS.f
  refine Ev.congr (fun k => if_pos (by omega)) (Ev.congr (fun k => if_pos (by omega)) ?_)
  rw [Int.toNat_natCast]
  exact this
theorem eqSS_ev {a b : List (List Int)} (ha : Small a) : Ev (fun k => laws_eqInt64SS.f k a b) (decide (a = b)) := by
  have hl := ha.len
  unfold laws_eqInt64SS.f
  by_cases e : a.length = b.length
  · refine Ev.congr (fun k => if_pos (by omega)) ?_
    have key : ∀ d n, n + d = a.length → Ev (fun k => laws_eqInt64SS.l0 k a b (n : Int)) (decide (a.drop n = b.drop n)) := by
      intro d
      induction d with
      | zero =>
        intro n hn
        rw [List.drop_of_length_le (by omega), List.drop_of_length_le (by omega)]
        refine Ev_succ ?_
        simp only [laws_eqInt64SS.l0]
        exact Ev.congr (fun k => if_neg (by omega)) (Ev.now _)
      | succ d ih =>
        intro n hn
        have h1 : a.drop n = a.getD n [] :: a.drop (n + 1) := by rw [List.drop_eq_getElem_cons (by omega), List.getD_eq_getElem?_getD, List.getElem?_eq_getElem (by omega)]; rfl
        have h2 : b.drop n = b.getD n [] :: b.drop (n + 1) := by rw [List.drop_eq_getElem_cons (by omega), List.getD_eq_getElem?_getD, List.getElem?_eq_getElem (by omega)]; rfl
        refine Ev_succ ?_
        simp only [laws_eqInt64SS.l0]
        refine Ev.congr (fun k => if_pos (by omega)) (Ev.congr (fun k => if_pos (by omega)) (Ev.congr (fun k => if_pos (by omega)) ?_))
        rw [lrdRow, lrdRow]
        refine Ev.bind (eqS_ev _ _ (by have := ha.at n; omega)) ?_
        by_cases g : a.getD n [] = b.getD n []
        · refine Ev.congr (fun k => if_pos (decide_eq_true g)) ?_
          rw [wS (n := n) (by omega)]
          have := ih (n + 1) (by omega)
          have e2 : decide (a.drop n = b.drop n) = decide (a.drop (n + 1) = b.drop (n + 1)) := by
            rw [decide_eq_decide, h1, h2, g]
            exact ⟨fun h => (List.cons.inj h).2, fun h => by rw [h]⟩
          rw [e2]; exact this
        · refine Ev.congr (fun k => if_neg (by simpa using g)) ?_
          rw [decide_eq_false (fun h => g (by rw [h1, h2] at h; exact (List.cons.inj h).1))]
          exact Ev.now _
    have := key a.length 0 (by omega)
    rw [List.drop_zero, List.drop_zero] at this
    exact this
  · refine Ev.congr (fun k => if_neg (by omega)) ?_
    rw [decide_eq_false (fun h => e (by rw [h]))]
    exact Ev.now _
theorem szS_f (l : List Int) (x : Int) (hl : l.length ≤ maxLen) (h0 : 0 ≤ x) (h1 : x ≤ 1048576) : laws_szInt64S.f l x = some (if (l.length : Int) ≤ x then x - l.length else -1) := by
  unfold maxLen at hl
  unfold laws_szInt64S.f
  rw [show wrap64 (x - (l.length : Int)) = x - l.length from by unfold wrap64; omega]
  by_cases h : (l.length : Int) ≤ x
  · rw [if_neg (by omega), if_pos h]
  · rw [if_pos (by omega), if_neg h]
theorem szSS_ev (L : List (List Int)) (x : Int) (hl : L.length ≤ maxLen) (hr : ∀ l ∈ L, l.length ≤ maxLen) (h0 : 0 ≤ x) (h1 : x ≤ 1048576) : ∃ t, Ev (fun k => laws_szInt64SS.f k L x) t ∧ (0 ≤ t → Small L) ∧ t ≤ 1048576 := by
  unfold maxLen at hl
  unfold laws_szInt64SS.f
  rw [show wrap64 (x - (L.length : Int)) = x - L.length from by unfold wrap64; omega]
  by_cases h : (L.length : Int) ≤ x
  · have key : ∀ d n y, n + d = L.length → 0 ≤ y → y ≤ 1048576 → ∃ t, Ev (fun k => laws_szInt64SS.l0 k L y (n : Int)) t ∧ (0 ≤ t → ∀ l ∈ L.drop n, l.length ≤ 1048576) ∧ t ≤ 1048576 := by
      intro d
      induction d with
      | zero =>
        intro n y hn hy hy1
        refine ⟨y, ?_, fun _ => by rw [List.drop_of_length_le (by omega)]; simp, hy1⟩
        refine Ev_succ ?_
        simp only [laws_szInt64SS.l0]
        exact Ev.congr (fun k => if_neg (by omega)) (Ev.now _)
      | succ d ih =>
        intro n y hn hy hy1
        have hd : L.drop n = L.getD n [] :: L.drop (n + 1) := by rw [List.drop_eq_getElem_cons (by omega), List.getD_eq_getElem?_getD, List.getElem?_eq_getElem (by omega)]; rfl
        have hm : (L.getD n []).length ≤ maxLen := hr _ (by rw [List.getD_eq_getElem?_getD, List.getElem?_eq_getElem (by omega)]; exact List.getElem_mem _)
        have hs := szS_f (L.getD n []) y hm hy hy1
        by_cases g : ((L.getD n []).length : Int) ≤ y
        · obtain ⟨t, ht, hq, ht1⟩ := ih (n + 1) (y - (L.getD n []).length) (by omega) (by omega) (by omega)
          refine ⟨t, ?_, fun h0 l hl' => ?_, ht1⟩
          · refine Ev_succ ?_
            simp only [laws_szInt64SS.l0]
            refine Ev.congr (fun k => if_pos (by omega)) (Ev.congr (fun k => if_pos (by omega)) ?_)
            rw [lrdRow, hs, if_pos g]
            simp only [Option.bind_some]
            rw [wS (n := n) (by omega)]
            exact Ev.congr (fun k => if_neg (by omega)) ht
          · rw [hd] at hl'
            rcases List.mem_cons.1 hl' with q | q
            · rw [q]; omega
            · exact hq h0 l q
        · refine ⟨-1, ?_, fun h0 => absurd h0 (by omega), by omega⟩
          refine Ev_succ ?_
          simp only [laws_szInt64SS.l0]
          refine Ev.congr (fun k => if_pos (by omega)) (Ev.congr (fun k => if_pos (by omega)) ?_)
          rw [lrdRow, hs, if_neg g]
          simp only [Option.bind_some]
          exact Ev.congr (fun k => if_pos (by omega)) (Ev.now _)
    obtain ⟨t, ht, hq, ht1⟩ := key L.length 0 (x - L.length) (by omega) (by omega) (by omega)
    exact ⟨t, Ev.congr (fun k => if_neg (by omega)) ht, fun h0 => ⟨by omega, fun l hl' => hq h0 l (by rw [List.drop_zero]; exact hl')⟩, ht1⟩
  · exact ⟨-1, Ev.congr (fun k => if_pos (by omega)) (Ev.now _), fun h0 => absurd h0 (by omega), by omega⟩
theorem szWeb_ev (l : List Int) (L : List (List Int)) (hl : l.length ≤ maxLen) (hL : L.length ≤ maxLen) (hr : ∀ l ∈ L, l.length ≤ maxLen) : ∃ t, Ev (fun k => laws_szWeb.f k l L 1048576) t ∧ (0 ≤ t → l.length ≤ 1048576 ∧ Small L) := by
  unfold laws_szWeb.f
  rw [szS_f l 1048576 hl (by omega) (by omega)]
  simp only [Option.bind_some]
  by_cases h : (l.length : Int) ≤ 1048576
  · rw [if_pos h]
    obtain ⟨t, ht, hq, _⟩ := szSS_ev L (1048576 - l.length) hL hr (by omega) (by omega)
    by_cases g : t < 0
    · refine ⟨-1, ?_, fun h0 => absurd h0 (by omega)⟩
      refine Ev.congr (fun k => if_neg (by omega)) (Ev.bind ht ?_)
      exact Ev.congr (fun k => if_pos g) (Ev.now _)
    · refine ⟨t, ?_, fun h0 => ⟨by omega, hq h0⟩⟩
      refine Ev.congr (fun k => if_neg (by omega)) (Ev.bind ht ?_)
      exact Ev.congr (fun k => if_neg g) (Ev.now _)
  · rw [if_neg h]
    exact ⟨-1, Ev.congr (fun k => if_pos (by omega)) (Ev.now _), fun h0 => absurd h0 (by omega)⟩
theorem toWeb_ev {l : List Int} {L : List (List Int)} (hl : l.length ≤ 1048576) (hL : Small L) : Ev (fun k => laws_toWeb.f k l L) (l, L) := by
  unfold laws_toWeb.f
  exact Ev.bind (toS_ev l (by omega)) (Ev.bind (toSS_ev hL) (Ev.now _))
theorem eqWeb_ev {l m : List Int} {L M : List (List Int)} (hl : l.length ≤ 1048576) (hL : Small L) : Ev (fun k => laws_eqWeb.f k l L m M) (decide (l = m ∧ L = M)) := by
  unfold laws_eqWeb.f
  refine Ev.bind (eqS_ev l m (by omega)) ?_
  by_cases h : l = m
  · refine Ev.congr (fun k => if_pos (decide_eq_true h)) (Ev.bind (eqSS_ev hL) ?_)
    by_cases g : L = M
    · rw [decide_eq_true (show l = m ∧ L = M from ⟨h, g⟩)]
      exact Ev.congr (fun k => if_pos (decide_eq_true g)) (Ev.now _)
    · rw [decide_eq_false (show ¬ (l = m ∧ L = M) from fun q => g q.2)]
      exact Ev.congr (fun k => if_neg (by simpa using g)) (Ev.now _)
  · rw [decide_eq_false (show ¬ (l = m ∧ L = M) from fun q => h q.1)]
    exact Ev.congr (fun k => if_neg (by simpa using h)) (Ev.now _)
end Go.Proofs.Ytnlhhbnoccobmaa.Pure
end
section
namespace Go.Proofs.Ytnlhhbnoccobmaa.F
open Go.RowKit Go.Proofs.YtnlhhbnoccobmaaW.PrintWords Go.Proofs.YtnlhhbnoccobmaaW.PrintLast Go.Proofs.YtnlhhbnoccobmaaW.PrintMore
attribute [local go_sem] max2_int min2_int max_two min_two max_three min_three max_four min_four   
set_option linter.unusedVariables false
set_option linter.unusedSimpArgs false
end Go.Proofs.Ytnlhhbnoccobmaa.F
end
section
namespace Go.Proofs.Ytnlhhbnoccobmaa.Pure
open Go.RowKit Go.Proofs.Ytnlhhbnoccobmaa.F Go.Proofs.Ytnlhhbnoccobmaa.Mem Go.Proofs.Ytnlhhbnoccobmaa.Web Go.Proofs.YtnlhhbnoccobmaaW.PrintWords Go.Proofs.YtnlhhbnoccobmaaW.PrintLast
set_option linter.unusedVariables false
set_option linter.unusedSimpArgs false
theorem wrdRow (rows : List (List Int)) (a : Nat) : rd_L1 rows (a : Int) = rows.getD a [] := by unfold rd_L1; rw [Int.toNat_natCast]
def edgesW (legs : List Int) (forks : List (List Int)) (i : Nat) : List Int := if i < legs.length then [legs.getD i 0] else forks.getD (i - legs.length) []
theorem edges_f (legs : List Int) (forks : List (List Int)) (i : Nat) (hi : i < legs.length + forks.length) (hb : legs.length + forks.length ≤ 8) : spec_l06Edges.f legs forks (i : Int) = some (edgesW legs forks i) := by
  unfold spec_l06Edges.f edgesW
  by_cases h : i < legs.length
  · rw [if_pos (by omega), if_pos (by omega), if_pos h, rdN]
  · have e : wrap64 ((i : Int) - (legs.length : Int)) = ((i - legs.length : Nat) : Int) := by unfold wrap64; omega
    rw [if_neg (by omega), if_neg h, e, if_pos (by omega), if_pos (by omega), wrdRow]
theorem mem_edges {legs : List Int} {forks : List (List Int)} {e : Int} {u : Nat} (hu : u < legs.length + forks.length) : e ∈ edgesW legs forks u ↔ (e, u) ∈ inc legs forks := by
  rw [mem_inc]
  unfold edgesW
  by_cases h : u < legs.length
  · rw [if_pos h, List.mem_singleton, List.getD_eq_getElem?_getD, List.getElem?_eq_getElem h]
    constructor
    · intro g; left; rw [g]; rfl
    · rintro (g | g)
      · exact (Option.some.inj g).symm
      · omega
  · rw [if_neg h, List.getD_eq_getElem?_getD, List.getElem?_eq_getElem (by omega)]
    constructor
    · intro g; exact .inr ⟨by omega, _, rfl, g⟩
    · rintro (g | ⟨_, f, hf, g⟩)
      · have := (List.getElem?_eq_some_iff.1 g).1; omega
      · rw [← Option.some.inj hf] at g; exact g
def joinB (a b : List Int) : Bool := a.any fun x => b.contains x
theorem joined_l1 (a b : List Int) (ha : a.length < 4611686018427387904) (hb : b.length < 4611686018427387904) (i : Nat) (hi : i < a.length) (res : Bool) (hr : Ev (fun k => spec_l06Joined.l0 k a b ((i + 1 : Nat) : Int)) res) :
    ∀ d j, j + d = b.length → Ev (fun k => spec_l06Joined.l1 k a b (i : Int) (j : Int)) (if (b.drop j).contains (a.getD i 0) = true then true else res) := by
  intro d
  induction d with
  | zero =>
    intro j hj
    rw [List.drop_of_length_le (by omega)]
    refine Ev_succ ?_
    simp only [spec_l06Joined.l1]
    rw [wS (n := i) (by omega)]
    exact Ev.congr (fun k => if_neg (by omega)) (by simpa using hr)
  | succ d ih =>
    intro j hj
    rw [List.drop_eq_getElem_cons (by omega)]
    have hg : b[j]'(by omega) = b.getD j 0 := by rw [List.getD_eq_getElem?_getD, List.getElem?_eq_getElem (by omega)]; rfl
    rw [hg]
    refine Ev_succ ?_
    simp only [spec_l06Joined.l1]
    refine Ev.congr (fun k => if_pos (by omega)) (Ev.congr (fun k => if_pos (by omega)) (Ev.congr (fun k => if_pos (by omega)) (Ev.congr (fun k => if_pos (by omega)) ?_)))
    rw [rdN, rdN]
    by_cases e : a.getD i 0 = b.getD j 0
    · refine Ev.congr (fun k => if_pos e) ?_
      rw [if_pos (by rw [List.contains_cons, e]; simp)]
      exact Ev.now _
    · refine Ev.congr (fun k => if_neg e) ?_
      rw [wS (n := j) (by omega), List.contains_cons, show (a.getD i 0 == b.getD j 0) = false from by simpa using e, Bool.false_or]
      exact ih (j + 1) (by omega)
theorem joined_l0 (a b : List Int) (ha : a.length < 4611686018427387904) (hb : b.length < 4611686018427387904) : ∀ d i, i + d = a.length → Ev (fun k => spec_l06Joined.l0 k a b (i : Int)) (joinB (a.drop i) b) := by
  intro d
  induction d with
  | zero =>
    intro i hi
    rw [List.drop_of_length_le (by omega)]
    refine Ev_succ ?_
    simp only [spec_l06Joined.l0]
    exact Ev.congr (fun k => if_neg (by omega)) (Ev.now _)
  | succ d ih =>
    intro i hi
    have h := joined_l1 a b ha hb i (by omega) _ (ih (i + 1) (by omega)) b.length 0 (by omega)
    rw [List.drop_eq_getElem_cons (by omega)]
    have hg : a[i]'(by omega) = a.getD i 0 := by rw [List.getD_eq_getElem?_getD, List.getElem?_eq_getElem (by omega)]; rfl
    rw [hg]
    refine Ev_succ ?_
    simp only [spec_l06Joined.l0]
    refine Ev.congr (fun k => if_pos (by omega)) ?_
    rw [List.drop_zero] at h
    have e : joinB (a.getD i 0 :: a.drop (i + 1)) b = if b.contains (a.getD i 0) = true then true else joinB (a.drop (i + 1)) b := by
      unfold joinB; rw [List.any_cons]
      cases b.contains (a.getD i 0) <;> simp
    rw [e]; exact h
theorem joined_ev (a b : List Int) (ha : a.length < 4611686018427387904) (hb : b.length < 4611686018427387904) : Ev (fun k => spec_l06Joined.f k a b) (joinB a b) := joined_l0 a b ha hb a.length 0 (by omega)
theorem join_J {legs : List Int} {forks : List (List Int)} {u v : Nat} (hu : u < legs.length + forks.length) (hv : v < legs.length + forks.length) : joinB (edgesW legs forks u) (edgesW legs forks v) = true ↔ J (inc legs forks) u v := by
  unfold joinB J
  rw [List.any_eq_true]
  constructor
  · rintro ⟨e, h1, h2⟩
    exact ⟨e, (mem_edges hu).1 h1, (mem_edges hv).1 (List.contains_iff_mem.1 h2)⟩
  · rintro ⟨e, h1, h2⟩
    exact ⟨e, (mem_edges hu).2 h1, List.contains_iff_mem.2 ((mem_edges hv).2 h2)⟩
def sumN (l : List Nat) : Nat := l.foldr (· + ·) 0
theorem sum_set : ∀ (l : List Nat) (i x : Nat), i < l.length → sumN (l.set i x) + at_ l i = sumN l + x
  | [], _, _, h => absurd h (by simp)
  | a :: l, 0, x, _ => by simp [sumN, at_]; omega
  | a :: l, i + 1, x, h => by
    have := sum_set l i x (by simpa using h)
    simp only [List.set_cons_succ, sumN, List.foldr_cons, at_, List.getD_cons_succ] at this ⊢
    omega
theorem sum_relax {out : List Nat} {i k : Nat} (hi : i < out.length) (hk : k < out.length) (hne : i ≠ k) (h : at_ out i ≠ at_ out k) : sumN (relax2 out i k) < sumN out := by
  have h1 := sum_set out i (low2 out i k) hi
  have h2 := sum_set (out.set i (low2 out i k)) k (low2 out i k) (by rw [List.length_set]; exact hk)
  rw [at_set hi, if_neg (Ne.symm hne)] at h2
  unfold relax2
  unfold low2 at h1 h2 ⊢
  omega
structure WPass (I : List (Int × Nat)) (n : Nat) (out0 out : List Nat) (more : Bool) : Prop where
  fits : Fits I n out
  no : more = false → out = out0
  yes : more = true → sumN out < sumN out0
theorem ints_set (l : List Nat) (i x : Nat) : (ints l).set i (x : Int) = ints (l.set i x) := by unfold ints; rw [List.map_set]
theorem rd_ints {l : List Nat} {i : Nat} (h : i < l.length) : rd (ints l) (i : Int) = ((at_ l i : Nat) : Int) := by rw [rdN, ints_getD l i h]; rfl
theorem mn_nat (a b : Nat) : mn (a : Int) (b : Int) = ((min a b : Nat) : Int) := by unfold mn; omega
theorem edges_len {legs : List Int} {forks : List (List Int)} (hf : ∀ f ∈ forks, f.length = 3) (i : Nat) : (edgesW legs forks i).length ≤ 3 := by
  unfold edgesW
  split
  · simp
  · rw [List.getD_eq_getElem?_getD]
    cases h : forks[i - legs.length]? with
    | none => simp
    | some f => have := hf f (List.mem_of_getElem? h); simp [this]
section
variable {legs : List Int} {forks : List (List Int)} {n : Nat} (hn : n = legs.length + forks.length) (h8 : n ≤ 8) (hf : ∀ f ∈ forks, f.length = 3)
include hn h8 hf
theorem wparts_l3 (out0 : List Nat) (Q : List Int → Prop) (i : Nat) (hi : i < n) (m0 : Bool)
    (hnext : ∀ out more, WPass (inc legs forks) n out0 out more → (m0 = true → more = true) → (more = false → ∀ k, k < i → J (inc legs forks) i k → at_ out0 i = at_ out0 k) → ∃ res, Ev (fun k => spec_l06Parts.l2 k (ints out) more ((i + 1 : Nat) : Int) legs forks) res ∧ Q res) :
    ∀ e k out more, k + e = i → WPass (inc legs forks) n out0 out more → (m0 = true → more = true) → (more = false → ∀ k', k' < k → J (inc legs forks) i k' → at_ out0 i = at_ out0 k') → ∃ res, Ev (fun q => spec_l06Parts.l3 q (ints out) more (i : Int) (k : Int) legs forks) res ∧ Q res := by
  intro e
  induction e with
  | zero =>
    intro k out more hk hp hs hc
    obtain ⟨res, hr, hq⟩ := hnext out more hp hs (fun hm k' hk' hj => hc hm k' (by omega) hj)
    refine ⟨res, ?_, hq⟩
    refine Ev_succ ?_
    simp only [spec_l06Parts.l3]
    rw [wS (n := i) (by omega)]
    exact Ev.congr (fun k => if_neg (by omega)) hr
  | succ e ih =>
    intro k out more hk hp hs hc
    have hl := hp.fits.len
    have hil : (ints out).length = out.length := ints_len out
    have step : ∀ res, Ev (fun q => if at_ out i = at_ out k then spec_l06Parts.l3 q (ints out) more (i : Int) ((k + 1 : Nat) : Int) legs forks else if joinB (edgesW legs forks i) (edgesW legs forks k) = true then spec_l06Parts.l3 q (ints (relax2 out i k)) true (i : Int) ((k + 1 : Nat) : Int) legs forks else spec_l06Parts.l3 q (ints out) more (i : Int) ((k + 1 : Nat) : Int) legs forks) res → Ev (fun q => spec_l06Parts.l3 q (ints out) more (i : Int) (k : Int) legs forks) res := by
      intro res hr
      refine Ev_succ ?_
      simp only [spec_l06Parts.l3]
      refine Ev.congr (fun q => if_pos (by omega)) (Ev.congr (fun q => if_pos (by omega)) (Ev.congr (fun q => if_pos (by omega)) (Ev.congr (fun q => if_pos (by omega)) (Ev.congr (fun q => if_pos (by omega)) ?_))))
      rw [rd_ints (by omega), rd_ints (by omega), wS (n := k) (by omega), edges_f legs forks i (by omega) (by omega), edges_f legs forks k (by omega) (by omega)]
      by_cases c : at_ out i = at_ out k
      · refine Ev.congr (fun q => if_pos (by omega)) ?_
        exact Ev.congr (fun q => (if_pos c).symm) hr
      · refine Ev.congr (fun q => if_neg (by omega)) ?_
        simp only [Option.bind_some]
        have h1 := edges_len (legs := legs) hf i
        have h2 := edges_len (legs := legs) hf k
        refine Ev.bind (joined_ev _ _ (by omega) (by omega)) ?_
        have hr2 := Ev.congr (fun q => (if_neg c).symm) hr
        rw [mn_nat, Int.toNat_natCast, Int.toNat_natCast, ints_set, ints_set]
        exact hr2
    by_cases c : at_ out i = at_ out k
    · obtain ⟨res, hr, hq⟩ := ih (k + 1) out more (by omega) hp hs (fun hm k' hk' hj => by
        by_cases g : k' = k
        · have := hp.no hm; subst this; subst g; exact c
        · exact hc hm k' (by omega) hj)
      exact ⟨res, step res (Ev.congr (fun q => if_pos c) hr), hq⟩
    · by_cases d : joinB (edgesW legs forks i) (edgesW legs forks k) = true
      · have hj := (join_J (by omega) (by omega)).1 d
        have hlt := sum_relax (out := out) (i := i) (k := k) (by omega) (by omega) (by omega) c
        obtain ⟨res, hr, hq⟩ := ih (k + 1) (relax2 out i k) true (by omega) ⟨hp.fits.relax (by omega) (by omega) hj, fun hm => absurd hm (by simp), fun _ => by
          cases hmo : more with
          | false => rw [← hp.no hmo]; exact hlt
          | true => have := hp.yes hmo; omega⟩ (fun _ => rfl) (fun hm => absurd hm (by simp))
        exact ⟨res, step res (Ev.congr (fun q => (if_neg c).trans (if_pos d)) hr), hq⟩
      · obtain ⟨res, hr, hq⟩ := ih (k + 1) out more (by omega) hp hs (fun hm k' hk' hj => by
          by_cases g : k' = k
          · subst g; exact absurd ((join_J (by omega) (by omega)).2 hj) d
          · exact hc hm k' (by omega) hj)
        exact ⟨res, step res (Ev.congr (fun q => (if_neg c).trans (if_neg d)) hr), hq⟩
theorem wparts_l2 (out0 : List Nat) (Q : List Int → Prop)
    (hnext : ∀ out more, WPass (inc legs forks) n out0 out more → (more = false → ∀ i, i < n → ∀ k, k < i → J (inc legs forks) i k → at_ out0 i = at_ out0 k) → ∃ res, Ev (fun k => spec_l06Parts.l1 k (ints out) more legs forks) res ∧ Q res) :
    ∀ e i out more, i + e = n → WPass (inc legs forks) n out0 out more → (more = false → ∀ i', i' < i → ∀ k, k < i' → J (inc legs forks) i' k → at_ out0 i' = at_ out0 k) → ∃ res, Ev (fun q => spec_l06Parts.l2 q (ints out) more (i : Int) legs forks) res ∧ Q res := by
  intro e
  induction e with
  | zero =>
    intro i out more hi hp hc
    have hl := hp.fits.len
    have hil : (ints out).length = out.length := ints_len out
    obtain ⟨res, hr, hq⟩ := hnext out more hp (fun hm i' hi' => hc hm i' (by omega))
    refine ⟨res, ?_, hq⟩
    refine Ev_succ ?_
    simp only [spec_l06Parts.l2]
    exact Ev.congr (fun k => if_neg (by omega)) hr
  | succ e ih =>
    intro i out more hi hp hc
    have hl := hp.fits.len
    have hil : (ints out).length = out.length := ints_len out
    obtain ⟨res, hr, hq⟩ := wparts_l3 hn h8 hf out0 Q i (by omega) more (fun out' more' hp' hs' hc' => ih (i + 1) out' more' (by omega) hp' (fun hm i' hi' => by
      by_cases g : i' = i
      · subst g; exact hc' hm
      · refine hc ?_ i' (by omega)
        cases hmo : more with
        | false => rfl
        | true => rw [hs' hmo] at hm; exact absurd hm (by simp))) i 0 out more (by omega) hp (fun hm => hm) (fun _ k' hk' => absurd hk' (Nat.not_lt_zero _))
    refine ⟨res, ?_, hq⟩
    refine Ev_succ ?_
    simp only [spec_l06Parts.l2]
    exact Ev.congr (fun k => if_pos (by omega)) hr
theorem wparts_l1 : ∀ m (out : List Nat), sumN out ≤ m → Fits (inc legs forks) n out → Ev (fun k => spec_l06Parts.l1 k (ints out) true legs forks) (ints ((List.range n).map (lbl (inc legs forks)))) := by
  have fin : ∀ out out' more', Fits (inc legs forks) n out → WPass (inc legs forks) n out out' more' → (more' = false → ∀ i, i < n → ∀ k, k < i → J (inc legs forks) i k → at_ out i = at_ out k) → more' = false → ∃ res, Ev (fun k => spec_l06Parts.l1 k (ints out') more' legs forks) res ∧ res = ints ((List.range n).map (lbl (inc legs forks))) := by
    intro out out' more' hF hp' hcl hmo
    have e := hp'.no hmo
    subst e
    refine ⟨ints out', ?_, ?_⟩
    · refine Ev_succ ?_
      simp only [spec_l06Parts.l1]
      exact Ev.congr (fun k => if_neg (by rw [hmo]; simp)) (Ev.now _)
    · rw [← fixed_lbl (fun e u h => by rw [hn]; exact inc_lt h) hF (fun u v hj => ?_)]
      obtain ⟨e, h1, h2⟩ := hj
      have hu : u < n := by rw [hn]; exact inc_lt h1
      have hv : v < n := by rw [hn]; exact inc_lt h2
      rcases Nat.lt_trichotomy u v with g | g | g
      · exact (hcl hmo v hv u g ⟨e, h2, h1⟩).symm
      · rw [g]
      · exact hcl hmo u hu v g ⟨e, h1, h2⟩
  intro m
  induction m with
  | zero =>
    intro out hm hF
    obtain ⟨res, hr, hq⟩ := wparts_l2 hn h8 hf out (fun res => res = ints ((List.range n).map (lbl (inc legs forks)))) (fun out' more' hp' hcl => by
      cases hmo : more' with
      | true => have := hp'.yes hmo; omega
      | false => rw [← hmo]; exact fin out out' more' hF hp' hcl hmo) n 0 out false (by omega) ⟨hF, fun _ => rfl, fun h => absurd h (by simp)⟩ (fun _ i' hi' => absurd hi' (Nat.not_lt_zero _))
    subst hq
    refine Ev_succ ?_
    simp only [spec_l06Parts.l1]
    exact Ev.congr (fun k => if_pos trivial) hr
  | succ m ih =>
    intro out hm hF
    obtain ⟨res, hr, hq⟩ := wparts_l2 hn h8 hf out (fun res => res = ints ((List.range n).map (lbl (inc legs forks)))) (fun out' more' hp' hcl => by
      cases hmo : more' with
      | true => have := hp'.yes hmo; exact ⟨_, ih out' (by omega) hp'.fits, rfl⟩
      | false => rw [← hmo]; exact fin out out' more' hF hp' hcl hmo) n 0 out false (by omega) ⟨hF, fun _ => rfl, fun h => absurd h (by simp)⟩ (fun _ i' hi' => absurd hi' (Nat.not_lt_zero _))
    subst hq
    refine Ev_succ ?_
    simp only [spec_l06Parts.l1]
    exact Ev.congr (fun k => if_pos trivial) hr
theorem wparts_ev : Ev (fun k => spec_l06Parts.f k legs forks) (ints ((List.range n).map (lbl (inc legs forks)))) := by
  have key : ∀ d i, i + d = forks.length + legs.length → Ev (fun k => spec_l06Parts.l0 k (legs.length : Int) (ints (List.range i)) (i : Int) legs forks) (ints ((List.range n).map (lbl (inc legs forks)))) := by
    intro d
    induction d with
    | zero =>
      intro i hi
      obtain rfl : i = n := by omega
      have e : wrap64 ((legs.length : Int) + (forks.length : Int)) = (i : Int) := by unfold wrap64; omega
      refine Ev_succ ?_
      simp only [spec_l06Parts.l0]
      rw [e]
      refine Ev.congr (fun k => if_neg (by omega)) ?_
      exact wparts_l1 hn h8 hf _ _ (Nat.le_refl _) (range_fits _ _)
    | succ d ih =>
      intro i hi
      have e : wrap64 ((legs.length : Int) + (forks.length : Int)) = (n : Int) := by unfold wrap64; omega
      refine Ev_succ ?_
      simp only [spec_l06Parts.l0]
      rw [e]
      refine Ev.congr (fun k => if_pos (by omega)) (Ev.congr (fun k => if_pos (by rw [ints_len, List.length_range]; omega)) ?_)
      have := ih (i + 1) (by omega)
      rw [List.range_succ, ints_app] at this
      rw [wS (n := i) (by omega)]
      exact this
  exact key (forks.length + legs.length) 0 (by omega)
end
theorem inc_fst (legs : List Int) (forks : List (List Int)) : (inc legs forks).map Prod.fst = legs ++ forks.flatten := by
  unfold inc
  rw [List.map_append, List.map_flatMap]
  congr 1
  · simp [List.zipIdx_map_fst]
  · have : ∀ (F : List (List Int)) (s : Nat), (F.zipIdx s).flatMap (fun p => (p.1.map fun e => (e, p.2)).map Prod.fst) = F.flatten := by
      intro F
      induction F with
      | nil => intro s; rfl
      | cons f F ih => intro s; rw [List.zipIdx_cons, List.flatMap_cons, ih]; simp [Function.comp_def]
    exact this forks legs.length
theorem ends_count (legs : List Int) (forks : List (List Int)) (e : Int) : (ends (inc legs forks) e).length = (legs ++ forks.flatten).count e := by
  unfold ends
  rw [List.length_map, ← inc_fst, List.count, List.countP_map, ← List.countP_eq_length_filter]
  rfl
def twiceL (all : List Int) : Bool := all.all fun x => decide (0 ≤ x ∧ x ≤ 1000) && all.count x == 2
theorem twice_all (legs : List Int) (forks : List (List Int)) : twiceB legs forks = twiceL (legs ++ forks.flatten) := by
  unfold twiceB twiceL
  rw [← inc_fst, List.all_map]
  congr 1
  funext p
  simp only [Function.comp, ends_count, inc_fst]
theorem etwice_l2 (all : List Int) (ha : all.length ≤ 1000) (i : Nat) (hi : i < all.length) (res : Bool) (hr : Ev (fun k => spec_l06Twice.l1 k all ((i + 1 : Nat) : Int)) res) :
    ∀ d j c, j + d = all.length → c ≤ j → Ev (fun k => spec_l06Twice.l2 k all (i : Int) (c : Int) (j : Int)) (if c + (all.drop j).count (all.getD i 0) = 2 ∧ 0 ≤ all.getD i 0 ∧ all.getD i 0 ≤ 1000 then res else false) := by
  intro d
  induction d with
  | zero =>
    intro j c hj hc
    rw [List.drop_of_length_le (by omega), List.count_nil, Nat.add_zero]
    refine Ev_succ ?_
    simp only [spec_l06Twice.l2]
    refine Ev.congr (fun k => if_neg (by omega)) ?_
    by_cases h2 : c = 2
    · refine Ev.congr (fun k => if_pos (by omega)) (Ev.congr (fun k => if_pos (by omega)) (Ev.congr (fun k => if_pos (by omega)) ?_))
      rw [rdN, spec_in_f, wS (n := i) (by omega)]
      simp only [Option.bind_some]
      by_cases h3 : 0 ≤ all.getD i 0 ∧ all.getD i 0 ≤ 1000
      · rw [if_pos ⟨h2, h3⟩]
        exact Ev.congr (fun k => if_pos (decide_eq_true h3)) hr
      · rw [if_neg (fun h => h3 h.2)]
        exact Ev.congr (fun k => if_neg (by simpa using h3)) (Ev.now _)
    · rw [if_neg (fun h => h2 h.1)]
      exact Ev.congr (fun k => if_neg (by omega)) (Ev.now _)
  | succ d ih =>
    intro j c hj hc
    rw [List.drop_eq_getElem_cons (by omega), List.count_cons]
    have hg : all[j]'(by omega) = all.getD j 0 := by rw [List.getD_eq_getElem?_getD, List.getElem?_eq_getElem (by omega)]; rfl
    rw [hg]
    refine Ev_succ ?_
    simp only [spec_l06Twice.l2]
    refine Ev.congr (fun k => if_pos (by omega)) (Ev.congr (fun k => if_pos (by omega)) (Ev.congr (fun k => if_pos (by omega)) (Ev.congr (fun k => if_pos (by omega)) ?_)))
    rw [rdN, rdN, wS (n := j) (by omega), wS (n := c) (by omega)]
    by_cases e : all.getD j 0 = all.getD i 0
    · refine Ev.congr (fun k => if_pos e) ?_
      have := ih (j + 1) (c + 1) (by omega) (by omega)
      rw [show (all.getD j 0 == all.getD i 0) = true from by simpa using e, if_pos rfl, show c + (List.count (all.getD i 0) (all.drop (j + 1)) + 1) = c + 1 + List.count (all.getD i 0) (all.drop (j + 1)) from by omega]
      exact this
    · refine Ev.congr (fun k => if_neg e) ?_
      have := ih (j + 1) c (by omega) (by omega)
      rw [show (all.getD j 0 == all.getD i 0) = false from by simpa using e, if_neg (show ¬ (false = true) from by simp), Nat.add_zero]
      exact this
theorem etwice_l1 (all : List Int) (ha : all.length ≤ 1000) : ∀ d i, i + d = all.length → Ev (fun k => spec_l06Twice.l1 k all (i : Int)) ((all.drop i).all fun x => decide (0 ≤ x ∧ x ≤ 1000) && all.count x == 2) := by
  intro d
  induction d with
  | zero =>
    intro i hi
    rw [List.drop_of_length_le (by omega)]
    refine Ev_succ ?_
    simp only [spec_l06Twice.l1]
    exact Ev.congr (fun k => if_neg (by omega)) (Ev.now _)
  | succ d ih =>
    intro i hi
    have h := etwice_l2 all ha i (by omega) _ (ih (i + 1) (by omega)) all.length 0 0 (by omega) (by omega)
    rw [List.drop_zero, Nat.zero_add] at h
    rw [List.drop_eq_getElem_cons (by omega), List.all_cons]
    have hg : all[i]'(by omega) = all.getD i 0 := by rw [List.getD_eq_getElem?_getD, List.getElem?_eq_getElem (by omega)]; rfl
    rw [hg]
    refine Ev_succ ?_
    simp only [spec_l06Twice.l1]
    refine Ev.congr (fun k => if_pos (by omega)) ?_
    have e : ((decide (0 ≤ all.getD i 0 ∧ all.getD i 0 ≤ 1000) && List.count (all.getD i 0) all == 2) && (all.drop (i + 1)).all fun x => decide (0 ≤ x ∧ x ≤ 1000) && List.count x all == 2) = if List.count (all.getD i 0) all = 2 ∧ 0 ≤ all.getD i 0 ∧ all.getD i 0 ≤ 1000 then (all.drop (i + 1)).all (fun x => decide (0 ≤ x ∧ x ≤ 1000) && List.count x all == 2) else false := by
      by_cases h1 : List.count (all.getD i 0) all = 2 <;> by_cases h2 : 0 ≤ all.getD i 0 ∧ all.getD i 0 ≤ 1000
      · rw [if_pos ⟨h1, h2⟩, decide_eq_true h2, h1]; rfl
      · rw [if_neg (fun h => h2 h.2), decide_eq_false h2]; rfl
      · rw [if_neg (fun h => h1 h.1), show (List.count (all.getD i 0) all == 2) = false from by simpa using h1]; simp
      · rw [if_neg (fun h => h1 h.1), decide_eq_false h2]; rfl
    rw [e]; exact h
theorem etwice_ev (legs : List Int) (forks : List (List Int)) (h8 : legs.length + forks.length ≤ 8) : Ev (fun k => spec_l06Twice.f k legs forks) ((forks.all fun f => f.length == 3) && twiceB legs forks) := by
  unfold spec_l06Twice.f
  rw [own_f legs (by omega)]
  simp only [Option.bind_some]
  have key : ∀ d i, i + d = forks.length → (∀ f ∈ forks.take i, f.length = 3) → Ev (fun k => spec_l06Twice.l0 k (legs ++ (forks.take i).flatten) (i : Int) legs forks) (((forks.drop i).all fun f => f.length == 3) && twiceB legs forks) := by
    intro d
    induction d with
    | zero =>
      intro i hi h3
      rw [List.take_of_length_le (by omega)] at h3 ⊢
      rw [List.drop_of_length_le (by omega), List.all_nil, Bool.true_and, twice_all]
      refine Ev_succ ?_
      simp only [spec_l06Twice.l0]
      refine Ev.congr (fun k => if_neg (by omega)) ?_
      have hlen : ∀ F : List (List Int), (∀ f ∈ F, f.length = 3) → F.flatten.length = 3 * F.length := by
        intro F
        induction F with
        | nil => intro _; rfl
        | cons f F ih => intro h; rw [List.flatten_cons, List.length_append, ih (fun g hg => h g (List.mem_cons_of_mem _ hg)), h f List.mem_cons_self, List.length_cons]; omega
      have := hlen forks h3
      exact etwice_l1 (legs ++ forks.flatten) (by rw [List.length_append]; omega) (legs ++ forks.flatten).length 0 (by omega)
    | succ d ih =>
      intro i hi h3
      rw [List.drop_eq_getElem_cons (by omega), List.all_cons]
      have hg : forks[i]'(by omega) = forks.getD i [] := by rw [List.getD_eq_getElem?_getD, List.getElem?_eq_getElem (by omega)]; rfl
      rw [hg]
      refine Ev_succ ?_
      simp only [spec_l06Twice.l0]
      refine Ev.congr (fun k => if_pos (by omega)) (Ev.congr (fun k => if_pos (by omega)) ?_)
      rw [wrdRow, wS (n := i) (by omega)]
      by_cases e : (forks.getD i []).length = 3
      · refine Ev.congr (fun k => if_pos (by omega)) ?_
        have hlen : ∀ F : List (List Int), (∀ f ∈ F, f.length = 3) → F.flatten.length = 3 * F.length := by
          intro F
          induction F with
          | nil => intro _; rfl
          | cons f F ih => intro h; rw [List.flatten_cons, List.length_append, ih (fun g hg => h g (List.mem_cons_of_mem _ hg)), h f List.mem_cons_self, List.length_cons]; omega
        have hl := hlen _ h3
        rw [List.length_take] at hl
        refine Ev.congr (fun k => if_pos (by rw [List.length_append]; omega)) ?_
        have ht : forks.take (i + 1) = forks.take i ++ [forks.getD i []] := by rw [List.take_succ_eq_append_getElem (by omega), hg]
        have := ih (i + 1) (by omega) (fun f hf => by
          rw [ht] at hf
          rcases List.mem_append.1 hf with q | q
          · exact h3 f q
          · rw [List.mem_singleton] at q; rw [q]; exact e)
        rw [ht, List.flatten_append, ← List.append_assoc] at this
        rw [show ((forks.getD i []).length == 3) = true from by rw [e]; rfl, Bool.true_and]
        simpa using this
      · refine Ev.congr (fun k => if_neg (by omega)) ?_
        rw [show ((forks.getD i []).length == 3) = false from by simpa using e]
        exact Ev.now _
  have := key forks.length 0 (by omega) (by simp)
  simpa using this
theorem specIs_ev (legs : List Int) (forks : List (List Int)) (h1 : legs.length ≤ 17592186044416) (h2 : forks.length ≤ 17592186044416) : Ev (fun k => spec_l06Is.f k legs forks) (isWebB legs forks) := by
  unfold spec_l06Is.f isWebB
  have e : wrap64 ((legs.length : Int) + (forks.length : Int)) = ((legs.length + forks.length : Nat) : Int) := by unfold wrap64; omega
  rw [e]
  by_cases h8 : legs.length + forks.length ≤ 8
  · rw [decide_eq_true h8, Bool.true_and]
    refine Ev.congr (fun k => if_neg (by omega)) (Ev.bind (etwice_ev legs forks h8) ?_)
    cases ht : ((forks.all fun f => f.length == 3) && twiceB legs forks) with
    | false =>
      rw [Bool.false_and]
      refine Ev_succ ?_
      simp only [spec_l06Is.j0, Bool.not_false, if_true]
      exact Ev.now _
    | true =>
      rw [Bool.true_and]
      have hf : ∀ f ∈ forks, f.length = 3 := fun f hf => by
        have := List.all_eq_true.1 (Bool.and_eq_true_iff.1 ht).1 f hf
        exact eq_of_beq this
      refine Ev_succ ?_
      simp only [spec_l06Is.j0]
      refine Ev.congr (fun k => if_neg (by simp)) (Ev.bind (wparts_ev rfl h8 hf) ?_)
      obtain ⟨n, hn⟩ : ∃ n, n = legs.length + forks.length := ⟨_, rfl⟩
      unfold rootedB
      rw [← hn]
      have key : ∀ d v, v + d = n → Ev (fun k => spec_l06Is.l0 k (ints ((List.range n).map (lbl (inc legs forks)))) (v : Int) legs forks) (((List.range n).drop v).all fun v => decide (lbl (inc legs forks) v < legs.length)) := by
        have hil : (ints ((List.range n).map (lbl (inc legs forks)))).length = n := by rw [ints_len]; simp
        intro d
        induction d with
        | zero =>
          intro v hv
          rw [List.drop_of_length_le (by rw [List.length_range]; omega)]
          refine Ev_succ ?_
          simp only [spec_l06Is.l0]
          exact Ev.congr (fun k => if_neg (by omega)) (Ev.now _)
        | succ d ih =>
          intro v hv
          rw [List.drop_eq_getElem_cons (by rw [List.length_range]; omega), List.all_cons, List.getElem_range]
          refine Ev_succ ?_
          simp only [spec_l06Is.l0]
          refine Ev.congr (fun k => if_pos (by omega)) (Ev.congr (fun k => if_pos (by omega)) ?_)
          have ha : at_ ((List.range n).map (lbl (inc legs forks))) v = lbl (inc legs forks) v := by
            unfold at_; rw [List.getD_eq_getElem?_getD, List.getElem?_map, List.getElem?_range (by omega)]; rfl
          rw [rd_ints (by simp; omega), ha, wS (n := v) (by omega)]
          by_cases c : lbl (inc legs forks) v < legs.length
          · rw [decide_eq_true c, Bool.true_and]
            exact Ev.congr (fun k => if_neg (by omega)) (ih (v + 1) (by omega))
          · rw [decide_eq_false c, Bool.false_and]
            exact Ev.congr (fun k => if_pos (by omega)) (Ev.now _)
      exact key n 0 (by omega)
  · rw [decide_eq_false h8]
    refine Ev.congr (fun k => if_pos (by omega)) ?_
    refine Ev_succ ?_
    simp only [spec_l06Is.j0, if_true, Bool.false_and]
    exact Ev.now _
end Go.Proofs.Ytnlhhbnoccobmaa.Pure
end
section
namespace Go.Proofs.Ytnlhhbnoccobmaa.Pure
open Go.RowKit Go.Proofs.Ytnlhhbnoccobmaa.F Go.Proofs.Ytnlhhbnoccobmaa.Web Go.Proofs.YtnlhhbnoccobmaaW.PrintWords Go.Proofs.YtnlhhbnoccobmaaW.PrintLast
theorem wf_inc {l : List Int} {L : List (List Int)} (w0 : ∀ x ∈ l, (Lit.int .i64 x).wf = true) (w1 : ∀ m ∈ L, ∀ x ∈ m, (Lit.int .i64 x).wf = true) : wfW l L = true := by
  unfold wfW
  rw [List.all_eq_true]
  intro p hp
  rcases mem_inc.1 (show (p.1, p.2) ∈ inc l L from hp) with h | ⟨_, f, hf, he⟩
  · exact w0 _ (List.mem_of_getElem? h)
  · exact w1 f (List.mem_of_getElem? hf) _ he
theorem specIs_C {l : List Int} {L : List (List Int)} (hl : l.length ≤ 1048576) (hL : Small L) : Ev (fun k => spec_l06Is.f k l L) (isWebC l L) := by
  have := hL.len
  rw [isWebC_eq]
  exact specIs_ev l L (by omega) (by omega)
end Go.Proofs.Ytnlhhbnoccobmaa.Pure
end
section
namespace Go.Proofs.Ytnlhhbnoccobmaa.Pure
open Go.RowKit Go.Proofs.Ytnlhhbnoccobmaa.F Go.Proofs.YtnlhhbnoccobmaaW.PrintWords Go.Proofs.YtnlhhbnoccobmaaW.PrintLast
set_option linter.unusedVariables false
set_option linter.unusedSimpArgs false
def total : List (List Int) → Nat
  | [] => 0
  | r :: v => r.length + total v
def markSS : Nat → List (List Int) → List (List Int)
  | _, [] => []
  | s, r :: v => marks s r.length :: markSS (s + r.length) v
theorem mark_s_ev (s : Nat) (hs : s ≤ 1152921504606846976) (v : List Int) (hv : v.length ≤ 1152921504606846976) : Ev (fun k => laws_markInt64S.f k v (s : Int)) (((s + v.length : Nat) : Int), marks s v.length) := by
  have h := mark_l0 s hs v 0 (by omega)
  rw [Nat.zero_add] at h
  exact h
theorem held_s_ev (s N : Nat) (hb : s + N ≤ 2305843009213693952) : Ev (fun k => laws_heldInt64S.f k (marks s N) (s : Int)) ((s + N : Nat) : Int) := held_l0 s N hb N 0 (by omega)
theorem getD_midS {α : Type} (a : List α) (x d : α) (b : List α) : (a ++ x :: b).getD a.length d = x := by
  rw [List.getD_eq_getElem?_getD, List.getElem?_append_right (Nat.le_refl _)]; simp
theorem set_midS {α : Type} (a : List α) (x y : α) (b : List α) : (a ++ x :: b).set a.length y = a ++ y :: b := by
  rw [List.set_append_right _ _ (Nat.le_refl _), Nat.sub_self, List.set_cons_zero]
theorem markSS_l0 : ∀ (t : List (List Int)) (pre : List (List Int)) (s : Nat), s + t.length * 1048576 ≤ 1152921504606846976 → pre.length + t.length ≤ 1000000000 → (∀ r ∈ t, r.length ≤ 1048576) → Ev (fun k => laws_markInt64SS.l0 k (pre ++ t) (s : Int) (pre.length : Int)) (((s + total t : Nat) : Int), pre ++ markSS s t)
  | [], pre, s, _, _, _ => by
    refine Ev_succ ?_
    simp only [laws_markInt64SS.l0]
    exact Ev.congr (fun k => if_neg (by rw [List.append_nil]; omega)) (Ev.now _)
  | r :: t, pre, s, hs, hp, hr => by
    rw [List.length_cons] at hs hp
    have hr1 := hr r List.mem_cons_self
    refine Ev_succ ?_
    simp only [laws_markInt64SS.l0]
    refine Ev.congr (fun k => if_pos (by rw [List.length_append, List.length_cons]; omega)) ?_
    rw [Int.toNat_natCast, getD_midS]
    refine Ev.bind (mark_s_ev s (by omega) r (by omega)) ?_
    rw [set_midS, wS (by omega)]
    have ih := markSS_l0 t (pre ++ [marks s r.length]) (s + r.length) (by omega) (by rw [List.length_append, List.length_singleton]; omega) (fun x hx => hr x (List.mem_cons_of_mem _ hx))
    rw [List.length_append, List.length_singleton, List.append_assoc, List.singleton_append, List.append_assoc, List.singleton_append] at ih
    rw [total, markSS, show s + (r.length + total t) = s + r.length + total t from by omega]
    exact ih
theorem heldSS_l0 : ∀ (t : List (List Int)) (pre : List (List Int)) (s : Nat), s + t.length * 1048576 ≤ 1152921504606846976 → pre.length + t.length ≤ 1000000000 → (∀ r ∈ t, r.length ≤ 1048576) → Ev (fun k => laws_heldInt64SS.l0 k (pre ++ markSS s t) (s : Int) (pre.length : Int)) ((s + total t : Nat) : Int)
  | [], pre, s, _, _, _ => by
    refine Ev_succ ?_
    simp only [laws_heldInt64SS.l0]
    exact Ev.congr (fun k => if_neg (by rw [markSS, List.append_nil]; omega)) (Ev.now _)
  | r :: t, pre, s, hs, hp, hr => by
    rw [List.length_cons] at hs hp
    have hr1 := hr r List.mem_cons_self
    refine Ev_succ ?_
    simp only [laws_heldInt64SS.l0]
    rw [markSS]
    refine Ev.congr (fun k => if_pos (by rw [List.length_append, List.length_cons]; omega)) (Ev.congr (fun k => if_pos (by omega)) ?_)
    rw [show rd_L1 (pre ++ marks s r.length :: markSS (s + r.length) t) (pre.length : Int) = marks s r.length from by unfold rd_L1; rw [Int.toNat_natCast]; exact getD_midS _ _ _ _]
    refine Ev.bind (held_s_ev s r.length (by omega)) ?_
    refine Ev.congr (fun k => if_neg (by omega)) ?_
    rw [wS (by omega)]
    have ih := heldSS_l0 t (pre ++ [marks s r.length]) (s + r.length) (by omega) (by rw [List.length_append, List.length_singleton]; omega) (fun x hx => hr x (List.mem_cons_of_mem _ hx))
    rw [List.length_append, List.length_singleton, List.append_assoc, List.singleton_append] at ih
    rw [total, show s + (r.length + total t) = s + r.length + total t from by omega]
    exact ih
end Go.Proofs.Ytnlhhbnoccobmaa.Pure
end
section
namespace Go.Proofs.Ytnlhhbnoccobmaa.Pure
open Go.RowKit Go.Proofs.Ytnlhhbnoccobmaa.F Go.Proofs.Ytnlhhbnoccobmaa.Web Go.Proofs.Ytnlhhbnoccobmaa.Mem Go.Proofs.YtnlhhbnoccobmaaW.PrintWords Go.Proofs.YtnlhhbnoccobmaaW.PrintLast
set_option linter.unusedVariables false
set_option linter.unusedSimpArgs false
theorem ownS_f (x : List Int) (h : x.length ≤ 1048576) : spec_l01Own.f x = some x := by
  unfold spec_l01Own.f
  simp only [Option.bind_some, List.length_nil, List.nil_append]
  rw [if_pos (by omega)]
theorem clone_f (x : List Int) (h : x.length ≤ 1048576) : slices_Clone_int64_int64.f x = some x := by
  unfold slices_Clone_int64_int64.f; rw [if_pos (by omega)]
theorem copy_ev (l : List Int) (L : List (List Int)) (hl : l.length ≤ 1048576) (hL : Small L) : Ev (fun k => spec_l06Copy.f k l L) (l, L) := by
  have hLl := hL.len
  have key : ∀ d i, i + d = L.length → Ev (fun k => spec_l06Copy.l0 k (i : Int) l L l (L.take i)) (l, L) := by
    intro d
    induction d with
    | zero =>
      intro i hi
      refine Ev_succ ?_
      simp only [spec_l06Copy.l0]
      rw [List.take_of_length_le (by omega)]
      exact Ev.congr (fun k => if_neg (by omega)) (Ev.now _)
    | succ d ih =>
      intro i hi
      have h := ih (i + 1) (by omega)
      rw [take_snocD L i [] (by omega)] at h
      refine Ev_succ ?_
      simp only [spec_l06Copy.l0]
      refine Ev.congr (fun k => if_pos (by omega)) (Ev.congr (fun k => if_pos (by omega)) ?_)
      rw [wrdRow, ownS_f _ (hL.at i), wS (n := i) (by omega)]
      simp only [Option.bind_some]
      exact Ev.congr (fun k => if_pos (by rw [List.length_take]; omega)) h
  unfold spec_l06Copy.f
  rw [ownS_f l hl]
  exact key L.length 0 (by omega)
theorem cloneWeb_ev (l : List Int) (L : List (List Int)) (hl : l.length ≤ 1048576) (hL : Small L) : Ev (fun k => impl_cloneWeb.f k l L) (l, L) := by
  have hLl := hL.len
  have key : ∀ d i, i + d = L.length → Ev (fun k => impl_cloneWeb.l0 k L (L.length : Int) (i : Int) l (L.take i)) (l, L) := by
    intro d
    induction d with
    | zero =>
      intro i hi
      refine Ev_succ ?_
      simp only [impl_cloneWeb.l0]
      rw [List.take_of_length_le (by omega)]
      exact Ev.congr (fun k => if_neg (by omega)) (Ev.now _)
    | succ d ih =>
      intro i hi
      have h := ih (i + 1) (by omega)
      rw [take_snocD L i [] (by omega)] at h
      refine Ev_succ ?_
      simp only [impl_cloneWeb.l0]
      refine Ev.congr (fun k => if_pos (by omega)) (Ev.congr (fun k => if_pos (by omega)) (Ev.congr (fun k => if_pos (by omega)) ?_))
      rw [wrdRow, clone_f _ (hL.at i), wS (n := i) (by omega)]
      simp only [Option.bind_some]
      exact Ev.congr (fun k => if_pos (by rw [List.length_take]; omega)) h
  unfold impl_cloneWeb.f
  rw [clone_f l hl]
  exact key L.length 0 (by omega)
theorem markW_ev (l : List Int) (L : List (List Int)) (hl : l.length ≤ 1048576) (hL : Small L) : Ev (fun k => laws_markInt64S.f k l 1) (((1 + l.length : Nat) : Int), marks 1 l.length) ∧ Ev (fun k => laws_markInt64SS.f k L ((1 + l.length : Nat) : Int)) (((1 + l.length + total L : Nat) : Int), markSS (1 + l.length) L) ∧ Ev (fun k => laws_heldWeb.f k (marks 1 l.length) (markSS (1 + l.length) L) 1) ((1 + l.length + total L : Nat) : Int) := by
  have hLl := hL.len
  have hr : ∀ r ∈ L, r.length ≤ 1048576 := fun r h => by
    obtain ⟨j, hj, e⟩ := List.mem_iff_getElem.1 h
    have := hL.at j
    rwa [List.getD_eq_getElem?_getD, List.getElem?_eq_getElem hj, Option.getD_some, e] at this
  refine ⟨mark_s_ev 1 (by omega) l (by omega), markSS_l0 L [] (1 + l.length) (by omega) (by simp; omega) hr, ?_⟩
  unfold laws_heldWeb.f
  refine Ev.bind (held_s_ev 1 l.length (by omega)) ?_
  refine Ev.congr (fun k => if_neg (by omega)) (Ev.bind (heldSS_l0 L [] (1 + l.length) (by omega) (by simp; omega) hr) ?_)
  exact Ev.congr (fun k => if_neg (by omega)) (Ev.now _)
end Go.Proofs.Ytnlhhbnoccobmaa.Pure
end
section
namespace Go.Proofs.Ytnlhhbnoccobmaa.Pure
open Go.RowKit Go.Proofs.Ytnlhhbnoccobmaa.F Go.Proofs.Ytnlhhbnoccobmaa.Web Go.Proofs.Ytnlhhbnoccobmaa.Mem Go.Proofs.YtnlhhbnoccobmaaW.PrintWords Go.Proofs.YtnlhhbnoccobmaaW.PrintLast
set_option linter.unusedVariables false
set_option linter.unusedSimpArgs false
def legsV (l : List Int) (L : List (List Int)) (a : Int) : Int := if isWebC l L = true then (if decide (0 ≤ a ∧ a ≤ wrap64 ((l.length : Int) - 2)) = true then 0 else 2) else 1
theorem specLegs_ev (l : List Int) (L : List (List Int)) (a : Int) (hl : l.length ≤ 1048576) (hL : Small L) : Ev (fun k => spec_l06Code.f k l L a) (legsV l L a) := by
  unfold spec_l06Code.f legsV
  refine Ev.bind (specIs_C hl hL) ?_
  by_cases h : isWebC l L = true
  · simp only [if_pos h, spec_in_f, Option.bind_some]
    by_cases g : decide (0 ≤ a ∧ a ≤ wrap64 ((l.length : Int) - 2)) = true
    · simp only [if_pos g]; exact Ev.now _
    · simp only [if_neg g]; exact Ev.now _
  · simp only [if_neg h]; exact Ev.now _
theorem implLegs_f (l : List Int) (L : List (List Int)) (a : Int) (hl : l.length ≤ 17592186044416) (hL : L.length ≤ 17592186044416) (hw : wfW l L = true) : impl_legsFault.f l L a = some (legsV l L a) := by
  have e : impl_IsWeb.f l L = some (isWebC l L) := by unfold impl_IsWeb.f; rw [if_pos ⟨hl, hL, hw⟩]
  unfold impl_legsFault.f legsV
  rw [e]
  simp only [Option.bind_some]
  by_cases h : isWebC l L = true
  · rw [if_pos h, if_pos h, in_f]
    simp only [Option.bind_some]
    by_cases g : decide (0 ≤ a ∧ a ≤ wrap64 ((l.length : Int) - 2)) = true
    · rw [if_pos g, if_pos g]
    · rw [if_neg g, if_neg g]
  · rw [if_neg h, if_neg h]
theorem legs_zero {l : List Int} {L : List (List Int)} {a : Int} (h : legsV l L a = 0) : isWebC l L = true ∧ 0 ≤ a ∧ a + 1 < (l.length : Int) ∧ l.length ≤ 8 := by
  unfold legsV at h
  by_cases g : isWebC l L = true
  · rw [if_pos g] at h
    have h8 := (web_of g).1
    by_cases q : decide (0 ≤ a ∧ a ≤ wrap64 ((l.length : Int) - 2)) = true
    · have := of_decide_eq_true q
      rw [show wrap64 ((l.length : Int) - 2) = (l.length : Int) - 2 from by unfold wrap64; omega] at this
      exact ⟨g, this.1, by omega, by omega⟩
    · rw [if_neg q] at h; exact absurd h (by decide)
  · rw [if_neg g] at h; exact absurd h (by decide)
end Go.Proofs.Ytnlhhbnoccobmaa.Pure
end
section
namespace Go.Proofs.Ytnlhhbnoccobmaa.Pure
open Go.RowKit Go.Proofs.Ytnlhhbnoccobmaa.F Go.Proofs.Ytnlhhbnoccobmaa.Web Go.Proofs.Ytnlhhbnoccobmaa.Mem Go.Proofs.YtnlhhbnoccobmaaW.PrintWords Go.Proofs.YtnlhhbnoccobmaaW.PrintLast
set_option linter.unusedVariables false
set_option linter.unusedSimpArgs false
theorem find_ev (l : List Int) (e : Int) (hl : l.length ≤ 1048576) : ∃ t, Ev (fun k => spec_l06Find.f k l e) t ∧ (0 ≤ t ↔ e ∈ l) := by
  have key : ∀ d i, i + d = l.length → ∃ t, Ev (fun k => spec_l06Find.l0 k l e (i : Int)) t ∧ (0 ≤ t ↔ e ∈ l.drop i) := by
    intro d
    induction d with
    | zero =>
      intro i hi
      refine ⟨-1, Ev_succ ?_, ?_⟩
      · simp only [spec_l06Find.l0]
        exact Ev.congr (fun k => if_neg (by omega)) (Ev.now _)
      · rw [List.drop_eq_nil_of_le (by omega)]; simp
    | succ d ih =>
      intro i hi
      have hd : l.drop i = l.getD i 0 :: l.drop (i + 1) := by
        rw [List.drop_eq_getElem_cons (by omega), List.getD_eq_getElem?_getD, List.getElem?_eq_getElem (by omega)]; rfl
      by_cases h : l.getD i 0 = e
      · refine ⟨(i : Int), Ev_succ ?_, ?_⟩
        · simp only [spec_l06Find.l0]
          refine Ev.congr (fun k => if_pos (by omega)) (Ev.congr (fun k => if_pos (by omega)) ?_)
          rw [rdN]
          exact Ev.congr (fun k => if_pos h) (Ev.now _)
        · rw [hd, h]; simp
      · obtain ⟨t, h1, h2⟩ := ih (i + 1) (by omega)
        refine ⟨t, Ev_succ ?_, ?_⟩
        · simp only [spec_l06Find.l0]
          refine Ev.congr (fun k => if_pos (by omega)) (Ev.congr (fun k => if_pos (by omega)) ?_)
          rw [rdN, wS (n := i) (by omega)]
          exact Ev.congr (fun k => if_neg h) h1
        · rw [hd, h2, List.mem_cons]
          exact ⟨.inr, fun g => g.resolve_left (fun q => h q.symm)⟩
  obtain ⟨t, h1, h2⟩ := key l.length 0 (by omega)
  exact ⟨t, h1, by simpa using h2⟩
theorem ends_ne {l : List Int} {L : List (List Int)} {e : Int} : ends (inc l L) e ≠ [] ↔ e ∈ l ∨ ∃ f ∈ L, e ∈ f := by
  constructor
  · intro h
    cases q : ends (inc l L) e with
    | nil => exact absurd q h
    | cons u r =>
      rcases mem_inc.1 (mem_ends.1 (show u ∈ ends (inc l L) e by rw [q]; simp)) with g | ⟨_, f, hf, he⟩
      · exact .inl (List.mem_of_getElem? g)
      · exact .inr ⟨f, List.mem_of_getElem? hf, he⟩
  · rintro (h | ⟨f, hf, he⟩) q
    · obtain ⟨u, hu⟩ := List.getElem?_of_mem h
      have := mem_ends.2 (mem_inc.2 (.inl hu : l[u]? = some e ∨ (l.length ≤ u ∧ ∃ f, L[u - l.length]? = some f ∧ e ∈ f)))
      rw [q] at this; simp at this
    · obtain ⟨u, hu⟩ := List.getElem?_of_mem hf
      have := mem_ends.2 (mem_inc.2 (.inr ⟨by omega, f, by rw [show l.length + u - l.length = u by omega]; exact hu, he⟩ : l[l.length + u]? = some e ∨ (l.length ≤ l.length + u ∧ ∃ f, L[l.length + u - l.length]? = some f ∧ e ∈ f)))
      rw [q] at this; simp at this
theorem forkL1_ev (l : List Int) (L : List (List Int)) (a : Int) (x : Nat) (hL : Small L) (r : List Int × List (List Int) × Int) :
    ∀ d j (b : Bool), j + d = L.length → Ev (fun k => if b = true ∨ ∃ f ∈ L.drop j, (x : Int) ∈ f then spec_ForkLegs.l0 k a (wrap64 ((x : Int) + 1)) true l L else spec_ForkLegs.l0 k a (x : Int) false l L) r → Ev (fun k => spec_ForkLegs.l1 k a (x : Int) b (j : Int) l L) r := by
  have hLl := hL.len
  intro d
  induction d with
  | zero =>
    intro j b hj h
    refine Ev_succ ?_
    simp only [spec_ForkLegs.l1]
    refine Ev.congr (fun k => if_neg (by omega)) ?_
    rw [List.drop_eq_nil_of_le (by omega)] at h
    cases b with
    | true => exact Ev.congr (fun k => if_pos rfl) (Ev.congr (fun k => (if_pos (.inl rfl)).symm) h)
    | false => exact Ev.congr (fun k => if_neg (by simp)) (Ev.congr (fun k => (if_neg (by simp)).symm) h)
  | succ d ih =>
    intro j b hj h
    have hd : L.drop j = L.getD j [] :: L.drop (j + 1) := by
      rw [List.drop_eq_getElem_cons (by omega), List.getD_eq_getElem?_getD, List.getElem?_eq_getElem (by omega)]; rfl
    refine Ev_succ ?_
    simp only [spec_ForkLegs.l1]
    refine Ev.congr (fun k => if_pos (by omega)) ?_
    cases b with
    | true =>
      refine Ev.congr (fun k => if_pos rfl) ?_
      rw [wS (n := j) (by omega)]
      exact ih (j + 1) true (by omega) (Ev.congr (fun k => by rw [if_pos (.inl rfl), if_pos (.inl rfl)]) h)
    | false =>
      refine Ev.congr (fun k => if_neg (by simp)) (Ev.congr (fun k => if_pos (by omega)) ?_)
      obtain ⟨t, h1, h2⟩ := find_ev (L.getD j []) (x : Int) (hL.at j)
      rw [lrdRow]
      refine Ev.bind h1 ?_
      rw [wS (n := j) (by omega)]
      refine ih (j + 1) _ (by omega) (Ev.congr (fun k => ?_) h)
      have e : (decide (t ≥ 0) = true ∨ ∃ f ∈ L.drop (j + 1), (x : Int) ∈ f) ↔ (false = true ∨ ∃ f ∈ L.drop j, (x : Int) ∈ f) := by
        rw [hd, decide_eq_true_eq]
        constructor
        · rintro (g | ⟨f, hf, he⟩)
          · exact .inr ⟨_, List.mem_cons_self, h2.1 g⟩
          · exact .inr ⟨f, List.mem_cons_of_mem _ hf, he⟩
        · rintro (g | ⟨f, hf, he⟩)
          · exact absurd g (by simp)
          · rcases List.mem_cons.1 hf with rfl | hf
            · exact .inl (h2.2 he)
            · exact .inr ⟨f, hf, he⟩
      by_cases q : false = true ∨ ∃ f ∈ L.drop j, (x : Int) ∈ f
      · rw [if_pos q, if_pos (e.2 q)]
      · rw [if_neg q, if_neg (fun g => q (e.1 g))]
def forkV (l : List Int) (L : List (List Int)) (a : Int) : List Int × List (List Int) × Int := if legsV l L a = 0 then (l.take a.toNat ++ [((freshN (inc l L) : Nat) : Int)] ++ l.drop (a.toNat + 2), L ++ [[((freshN (inc l L) : Nat) : Int), l.getD a.toNat 0, l.getD (a.toNat + 1) 0]], 0) else ([], [], legsV l L a)
theorem forkKeys {l : List Int} {L : List (List Int)} (h : isWebC l L = true) : ∀ p ∈ inc l L, p.1 ≤ 1000 := fun p hp => by
  have := List.all_eq_true.1 (web_of h).2.2.1 p hp
  simp only [Bool.and_eq_true, decide_eq_true_eq] at this
  exact this.1.2
theorem specFork_ev (l : List Int) (L : List (List Int)) (a : Int) (hl : l.length ≤ 1048576) (hL : Small L) : Ev (fun k => spec_ForkLegs.f k l L a) (forkV l L a) := by
  have hLl := hL.len
  unfold spec_ForkLegs.f forkV
  refine Ev.bind (specLegs_ev l L a hl hL) ?_
  by_cases h : legsV l L a = 0
  · rw [if_pos h]
    obtain ⟨hw, h0, h1, h8⟩ := legs_zero h
    obtain ⟨i, rfl⟩ : ∃ i : Nat, a = (i : Int) := ⟨a.toNat, by omega⟩
    rw [Int.toNat_natCast]
    obtain ⟨f1, f2, f3⟩ := freshN_spec (forkKeys hw)
    obtain ⟨F, hF⟩ : ∃ F, F = freshN (inc l L) := ⟨_, rfl⟩
    rw [← hF] at f1 f2 f3 ⊢
    refine Ev.congr (fun k => if_pos h) ?_
    have fin : Ev (fun k => spec_ForkLegs.l0 k (i : Int) (F : Int) false l L) (l.take i ++ [(F : Int)] ++ l.drop (i + 2), L ++ [[(F : Int), l.getD i 0, l.getD (i + 1) 0]], 0) := by
      refine Ev_succ ?_
      simp only [spec_ForkLegs.l0]
      refine Ev.congr (fun k => if_neg (by simp)) (Ev.bind (copy_ev l L hl hL) ?_)
      dsimp only
      have w2 : wrap64 ((i : Int) + 2) = ((i + 2 : Nat) : Int) := by unfold wrap64; omega
      rw [wS (n := i) (by omega), w2]
      refine Ev.congr (fun k => if_pos (by omega)) (Ev.congr (fun k => if_pos (by omega)) (Ev.congr (fun k => if_pos (by omega)) (Ev.congr (fun k => if_pos (by omega)) ?_)))
      simp only [Option.bind_some]
      refine Ev.congr (fun k => if_pos (by simp; omega)) (Ev.congr (fun k => if_pos (by omega)) ?_)
      rw [ownS_f _ (by rw [List.length_take]; omega)]
      simp only [Option.bind_some]
      refine Ev.congr (fun k => if_pos (by simp; omega)) (Ev.congr (fun k => if_pos (by omega)) (Ev.congr (fun k => if_pos (by omega)) (Ev.congr (fun k => if_pos (by simp; omega)) ?_)))
      rw [rdN, rdN, Int.toNat_natCast, Int.toNat_natCast]
      exact Ev.now _
    have key : ∀ d x, x + d = F → Ev (fun k => spec_ForkLegs.l0 k (i : Int) (x : Int) true l L) (l.take i ++ [(F : Int)] ++ l.drop (i + 2), L ++ [[(F : Int), l.getD i 0, l.getD (i + 1) 0]], 0) := by
      intro d
      induction d with
      | zero =>
        intro x hx
        obtain rfl : x = F := by omega
        refine Ev_succ ?_
        simp only [spec_ForkLegs.l0]
        refine Ev.congr (fun k => if_pos trivial) ?_
        obtain ⟨t, g1, g2⟩ := find_ev l (x : Int) hl
        refine Ev.bind g1 (forkL1_ev l L (i : Int) x hL _ L.length 0 _ (by omega) (Ev.congr (fun k => if_neg ?_) fin))
        rw [decide_eq_true_eq, List.drop_zero]
        rintro (q | q)
        · exact absurd f2 (ends_ne.2 (.inl (g2.1 q)))
        · exact absurd f2 (ends_ne.2 (.inr q))
      | succ d ih =>
        intro x hx
        refine Ev_succ ?_
        simp only [spec_ForkLegs.l0]
        refine Ev.congr (fun k => if_pos trivial) ?_
        obtain ⟨t, g1, g2⟩ := find_ev l (x : Int) hl
        refine Ev.bind g1 (forkL1_ev l L (i : Int) x hL _ L.length 0 _ (by omega) (Ev.congr (fun k => if_pos ?_) ?_))
        · rw [decide_eq_true_eq, List.drop_zero]
          rcases ends_ne.1 (f3 x (by omega)) with q | q
          · exact .inl (g2.2 q)
          · exact .inr q
        · rw [wS (n := x) (by omega)]
          exact ih (x + 1) (by omega)
    exact key F 0 (by omega)
  · rw [if_neg h]
    exact Ev.congr (fun k => if_neg h) (Ev.now _)
theorem implFork_ev (l : List Int) (L : List (List Int)) (a : Int) (hl : l.length ≤ 1048576) (hL : Small L) (hw : wfW l L = true) : Ev (fun k => impl_ForkLegs.f k l L a) (forkV l L a) := by
  have := hL.len
  unfold impl_ForkLegs.f forkV
  rw [implLegs_f l L a (by omega) (by omega) hw]
  simp only [Option.bind_some]
  by_cases h : legsV l L a = 0
  · rw [if_pos h]
    obtain ⟨q, h0, h1, h8⟩ := legs_zero h
    refine Ev.congr (fun k => if_pos h) (Ev.bind (cloneWeb_ev l L hl hL) ?_)
    exact Ev.congr (fun k => if_pos ⟨h0, h1, rfl, q, hw⟩) (Ev.now _)
  · rw [if_neg h]
    exact Ev.congr (fun k => if_neg h) (Ev.now _)
theorem forkV_small (l : List Int) (L : List (List Int)) (a : Int) (hl : l.length ≤ 1048576) (hL : Small L) : (forkV l L a).1.length ≤ 1048576 ∧ Small (forkV l L a).2.1 := by
  unfold forkV
  by_cases h : legsV l L a = 0
  · rw [if_pos h]
    obtain ⟨q, h0, h1, h8⟩ := legs_zero h
    have h9 := (web_of q).1
    refine ⟨by simp; omega, ⟨by simp; omega, fun f hf => ?_⟩⟩
    rcases List.mem_append.1 hf with g | g
    · exact hL.row f g
    · simp at g; rw [g]; simp
  · rw [if_neg h]; exact ⟨by simp, ⟨by simp, by simp⟩⟩
theorem FnExactForkLegs (l : List Int) (L : List (List Int)) (m0 : l.length ≤ maxLen) (m1 : L.length ≤ maxLen) (w0 : ∀ x ∈ l, (Lit.int .i64 x).wf = true) (w1 : ∀ m ∈ L, m.length ≤ maxLen ∧ ∀ x ∈ m, (Lit.int .i64 x).wf = true) (a : Int) (wa : (Lit.int .i64 a).wf = true) : laws_FnExactForkLegs.Good l L a ∧ true = true := by
  refine ⟨?_, rfl⟩
  obtain ⟨t, ht, hq⟩ := szWeb_ev l L m0 m1 (fun m hm => (w1 m hm).1)
  obtain ⟨k0, e0⟩ := Ev.rounds ht
  by_cases g : t < 0
  · exact .inl ⟨k0, t, e0, g⟩
  · obtain ⟨hl, hL⟩ := hq (by omega)
    have hLl := hL.len
    obtain ⟨k1, e1⟩ := Ev.rounds (toWeb_ev hl hL)
    obtain ⟨k2, e2⟩ := Ev.rounds (specFork_ev l L a hl hL)
    obtain ⟨k3, e3⟩ := Ev.rounds (implFork_ev l L a hl hL (wf_inc w0 (fun m hm => (w1 m hm).2)))
    obtain ⟨h1, h2⟩ := forkV_small l L a hl hL
    have h2l := h2.len
    obtain ⟨k4, e4⟩ := Ev.rounds (eqWeb_ev (m := (forkV l L a).1) (M := (forkV l L a).2.1) h1 h2)
    obtain ⟨k5, e5⟩ := Ev.rounds (eqWeb_ev (m := l) (M := L) hl hL)
    obtain ⟨p6, p7, _⟩ := markW_ev l L hl hL
    obtain ⟨p8, p9, pa⟩ := markW_ev (forkV l L a).1 (forkV l L a).2.1 h1 h2
    obtain ⟨k6, e6⟩ := Ev.rounds p6
    obtain ⟨k7, e7⟩ := Ev.rounds p7
    obtain ⟨k8, e8⟩ := Ev.rounds p8
    obtain ⟨k9, e9⟩ := Ev.rounds p9
    obtain ⟨ka, ea⟩ := Ev.rounds pa
    exact .inr ⟨k0, k1, k2, k3, k4, k5, k6, k7, k8, k9, ka, t, (forkV l L a).2.2, (forkV l L a).1, (forkV l L a).2.1, _, _, _, _, _, _, _, _, e0, by omega, e1, e2, e3, e4.trans (by simp), e5.trans (by simp), e6, e7, by omega, e8, e9, by omega, ea, by omega, by omega⟩
end Go.Proofs.Ytnlhhbnoccobmaa.Pure
end
section
namespace Go.Proofs.Ytnlhhbnoccobmaa.Open
open Go.ChangeShapes Go.WideShapes Go.RowKit Go.Joins Go.Deep Go.Proofs.YtnlhhbnoccobmaaW.PrintWords
theorem row_open {w : World} {P : Program} {H : Type} {enc : TypeId × Value → H} {t e : TypeId} {fuel : Nat} {v : Value} {x : DataW H × List MemPlace} (ht : P.underlying t = some (.slice e)) (he : P.underlying e = some (.int .i64)) (ce : P.cellsOf e = 1)
    (h : DataW.trod enc P w 0 (fun _ => true) true fuel t [v] = some x) : ∃ (A : Option Addr) (c : Nat) (l : List Int), v = .slice A l.length c ∧ Kd.C (Kd.int .i64) w A l.length l ∧ l.length ≤ c ∧ l.length ≤ maxLen ∧ ∀ n ∈ l, (Lit.int .i64 n).wf = true := by
  rcases open_ints ht he ce h with ⟨hcs, _⟩ | ⟨a, l, c, zs, hcs, _, hl, hm, hz, _, hcell, hwz⟩
  · obtain rfl : v = .slice none 0 0 := by simpa using hcs
    refine ⟨none, 0, [], rfl, ⟨rfl, Nat.zero_le _, fun hp => absurd hp (Nat.lt_irrefl _)⟩, Nat.le_refl _, Nat.zero_le _, by simp⟩
  · obtain rfl : v = .slice (some a) l c := by simpa using hcs
    simp only [if_true] at hz
    obtain ⟨l0, hll, hr0, hm0, hw0, hc0⟩ := ReadsInt.ofRowC (w := w) (k := .i64) (a := some a) (len := l) (cap := c) (zs := zs) (.inr ⟨a, rfl, hl, hm, hz, hcell, hwz⟩)
    subst hll
    exact ⟨some a, c, l0, rfl, Kd.C_of_reads (d := (0 : Int)) (h1 := fun _ => rfl) hr0, hc0, hm0, hw0⟩
theorem rows_open {w : World} {P : Program} {H : Type} {enc : TypeId × Value → H} {t e q : TypeId} {fuel : Nat} {v : Value} {x : DataW H × List MemPlace} (ht : P.underlying t = some (.slice e)) (he : P.underlying e = some (.slice q)) (hq : P.underlying q = some (.int .i64)) (ce : P.cellsOf e = 1) (cq : P.cellsOf q = 1)
    (h : DataW.trod enc P w 0 (fun _ => true) true fuel t [v] = some x) : ∃ (A : Option Addr) (c : Nat) (L : List (List Int)), v = .slice A L.length c ∧ Kd.C (Kd.slice q (Kd.int .i64)) w A L.length L ∧ L.length ≤ c ∧ L.length ≤ maxLen ∧ ∀ l ∈ L, l.length ≤ maxLen ∧ ∀ n ∈ l, (Lit.int .i64 n).wf = true := by
  rcases open_slice1 ht ce h with ⟨hcs, _⟩ | ⟨a, len, cap, m, n, V, D, Pl, hcs, _, hl, hm, hmm, _, hx⟩
  · obtain rfl : v = .slice none 0 0 := by simpa using hcs
    refine ⟨none, 0, [], rfl, ⟨rfl, Nat.zero_le _, fun hp => absurd hp (Nat.lt_irrefl _)⟩, Nat.le_refl _, Nat.zero_le _, by simp⟩
  · obtain rfl : v = .slice (some a) len cap := by simpa using hcs
    simp only [if_true] at hmm
    subst hmm
    have each : ∀ r, r < len → ∃ y : Option Addr × Nat × List Int, V r = .slice y.1 y.2.2.length y.2.1 ∧ Kd.C (Kd.int .i64) w y.1 y.2.2.length y.2.2 ∧ y.2.2.length ≤ y.2.1 ∧ y.2.2.length ≤ maxLen ∧ ∀ n ∈ y.2.2, (Lit.int .i64 n).wf = true := by
      intro r hr
      obtain ⟨A, c, l, h1, h2, h3, h4, h5⟩ := row_open he hq cq (hx r (by omega)).2
      exact ⟨(A, c, l), h1, h2, h3, h4, h5⟩
    obtain ⟨y, hy⟩ := choose_lt each
    have hlen : ((List.range len).map fun r => (y r).2.2).length = len := by simp
    have hm' := hm
    unfold maxLen at hm'
    refine ⟨some a, m, (List.range len).map fun r => (y r).2.2, by rw [hlen], ?_, by rw [hlen]; exact hl, by rw [hlen]; omega, fun l hl' => ?_⟩
    · refine ⟨rfl, by rw [hlen]; omega, fun _ => ⟨a, rfl, fun j p hj => ?_⟩⟩
      obtain ⟨hj1, hj2⟩ := List.getElem?_eq_some_iff.1 hj
      have hjl : j < len := by rw [hlen] at hj1; exact hj1
      rw [List.getElem_map, List.getElem_range] at hj2
      obtain ⟨h1, h2, h3, _, _⟩ := hy j hjl
      rw [hj2] at h1 h2 h3
      refine ⟨[V j], rfl, ?_, fun i u hu => ?_⟩
      · rw [h1]; exact ⟨_, _, rfl, h3, h2⟩
      · cases i with
        | zero =>
          rw [show (Kd.slice q (Kd.int .i64)).sz = 1 from rfl, Nat.mul_one, Nat.add_zero]
          rw [(hx j (by omega)).1]
          simpa using hu
        | succ i => simp at hu
    · obtain ⟨r, hr, rfl⟩ := List.mem_map.1 hl'
      have := hy r (List.mem_range.1 hr)
      exact ⟨this.2.2.2.1, this.2.2.2.2⟩
theorem web_open {w : World} {P : Program} {H : Type} {enc : TypeId × Value → H} {r : Reach} {b0 : Nat} {t e q ti : TypeId} {f0 f1 : Field} {v : Value} {d : DataW H} {p : List MemPlace} (hs : P.underlying t = some (.struct #[f0, f1])) (h0 : f0.type = e) (h1 : f1.type = ti) (hone : oneCellFields P #[f0, f1] = true) (hC : P.cellsOf t = 2)
    (ht : P.underlying ti = some (.slice e)) (he : P.underlying e = some (.slice q)) (hq : P.underlying q = some (.int .i64)) (ce : P.cellsOf e = 1) (cq : P.cellsOf q = 1)
    (hv : Value.okWide P w r b0 t v) (h : DataW.Trod enc P w 0 (fun _ => true) true t v d p) :
    ∃ (A0 : Option Addr) (c0 : Nat) (l : List Int) (A1 : Option Addr) (c1 : Nat) (L : List (List Int)), v = .agg #[.slice A0 l.length c0, .slice A1 L.length c1] ∧ Kd.C (Kd.int .i64) w A0 l.length l ∧ l.length ≤ c0 ∧ Kd.C (Kd.slice q (Kd.int .i64)) w A1 L.length L ∧ L.length ≤ c1 ∧ l.length ≤ maxLen ∧ L.length ≤ maxLen ∧ (∀ n ∈ l, (Lit.int .i64 n).wf = true) ∧ ∀ m ∈ L, m.length ≤ maxLen ∧ ∀ n ∈ m, (Lit.int .i64 n).wf = true := by
  obtain ⟨v0, v1, y0, y1, n, rfl, _, _, g0, g1⟩ := open_agg2 hs hone hC hv h
  rw [h0] at g0
  rw [h1] at g1
  obtain ⟨A0, c0, l, rfl, a1, a2, a3, a4⟩ := row_open he hq cq g0
  obtain ⟨A1, c1, L, rfl, b1, b2, b3, b4⟩ := rows_open ht he hq ce cq g1
  exact ⟨A0, c0, l, A1, c1, L, rfl, a1, a2, b1, b2, a3, b3, a4, b4⟩
end Go.Proofs.Ytnlhhbnoccobmaa.Open
end
section
namespace Go.Proofs.Ytnlhhbnoccobmaa.Head
open Go
set_option maxRecDepth 100000
theorem and_ok {a b : Bool} (ha : a = true) (hb : b = true) : (a && b) = true := by rw [ha, hb]; rfl
theorem signs : Try.prog.initOrder.toList = [104, 97, 114, 110, 101, 115, 115, 32, 54, 50, 56, 57, 50, 50, 50, 48, 49, 54, 50, 57, 57, 54, 55, 55, 49, 53, 48, 99, 54, 50, 56, 102, 49, 98, 100, 57, 48, 97, 53, 56, 56, 99, 48, 54, 100, 101, 55, 48, 97, 48, 101, 51, 56, 53, 55, 99, 97, 51, 57, 51, 98, 99, 48, 56, 50, 55, 100, 52, 99, 101, 99, 97, 32, 99, 117, 116, 32, 97, 116, 32, 108, 111, 111, 112, 46, 101, 120, 97, 109, 112, 108, 101, 47, 103, 48, 49, 51, 48, 51, 47, 108, 97, 119, 115, 46, 70, 110, 69, 120, 97, 99, 116, 73, 115, 87, 101, 98, 32, 108, 111, 111, 112, 46, 101, 120, 97, 109, 112, 108, 101, 47, 103, 48, 49, 51, 48, 51, 47, 108, 97, 119, 115, 46, 70, 110, 69, 120, 97, 99, 116, 78, 101, 119, 68, 101, 115, 107, 32, 108, 111, 111, 112, 46, 101, 120, 97, 109, 112, 108, 101, 47, 103, 48, 49, 51, 48, 51, 47, 108, 97, 119, 115, 46, 70, 110, 69, 120, 97, 99, 116, 68, 101, 103, 114, 101, 101, 79, 102, 87, 101, 98, 32, 108, 111, 111, 112, 46, 101, 120, 97, 109, 112, 108, 101, 47, 103, 48, 49, 51, 48, 51, 47, 108, 97, 119, 115, 46, 70, 110, 69, 120, 97, 99, 116, 84, 117, 114, 110, 70, 111, 114, 107, 32, 108, 111, 111, 112, 46, 101, 120, 97, 109, 112, 108, 101, 47, 103, 48, 49, 51, 48, 51, 47, 108, 97, 119, 115, 46, 70, 110, 69, 120, 97, 99, 116, 67, 111, 108, 111, 117, 114, 105, 110, 103, 80, 111, 108, 121, 110, 111, 109, 105, 97, 108, 32, 108, 111, 111, 112, 46, 101, 120, 97, 109, 112, 108, 101, 47, 103, 48, 49, 51, 48, 51, 47, 108, 97, 119, 115, 46, 70, 110, 69, 120, 97, 99, 116, 67, 111, 117, 110, 116, 67, 111, 108, 111, 117, 114, 105, 110, 103, 115, 32, 108, 111, 111, 112, 46, 101, 120, 97, 109, 112, 108, 101, 47, 103, 48, 49, 51, 48, 51, 47, 108, 97, 119, 115, 46, 70, 110, 69, 120, 97, 99, 116, 69, 120, 99, 104, 97, 110, 103, 101, 76, 101, 103, 115, 32, 108, 111, 111, 112, 46, 101, 120, 97, 109, 112, 108, 101, 47, 103, 48, 49, 51, 48, 51, 47, 108, 97, 119, 115, 46, 70, 110, 69, 120, 97, 99, 116, 84, 104, 114, 101, 101, 87, 101, 98, 115, 32, 108, 111, 111, 112, 46, 101, 120, 97, 109, 112, 108, 101, 47, 103, 48, 49, 51, 48, 51, 47, 108, 97, 119, 115, 46, 70, 110, 67, 111, 108, 111, 117, 114, 105, 110, 103, 115, 32, 108, 111, 111, 112, 46, 101, 120, 97, 109, 112, 108, 101, 47, 103, 48, 49, 51, 48, 51, 47, 108, 97, 119, 115, 46, 70, 110, 69, 120, 97, 99, 116, 70, 111, 114, 107, 76, 101, 103, 115, 32, 108, 111, 111, 112, 46, 101, 120, 97, 109, 112, 108, 101, 47, 103, 48, 49, 51, 48, 51, 47, 108, 97, 119, 115, 46, 70, 110, 69, 120, 97, 99, 116, 80, 97, 114, 116, 115, 79, 102, 87, 101, 98, 32, 108, 111, 111, 112, 46, 101, 120, 97, 109, 112, 108, 101, 47, 103, 48, 49, 51, 48, 51, 47, 108, 97, 119, 115, 46, 70, 110, 69, 120, 97, 99, 116, 76, 111, 111, 112, 115, 79, 102, 87, 101, 98, 32, 108, 111, 111, 112, 46, 101, 120, 97, 109, 112, 108, 101, 47, 103, 48, 49, 51, 48, 51, 47, 108, 97, 119, 115, 46, 70, 110, 67, 117, 114, 118, 101, 115, 32, 108, 111, 111, 112, 46, 101, 120, 97, 109, 112, 108, 101, 47, 103, 48, 49, 51, 48, 51, 47, 108, 97, 119, 115, 46, 70, 110, 69, 120, 97, 99, 116, 73, 110, 116, 101, 114, 108, 97, 99, 101, 80, 111, 108, 121, 110, 111, 109, 105, 97, 108, 32, 108, 111, 111, 112, 46, 101, 120, 97, 109, 112, 108, 101, 47, 103, 48, 49, 51, 48, 51, 47, 108, 97, 119, 115, 46, 70, 110, 69, 120, 97, 99, 116, 86, 97, 108, 117, 101, 79, 102, 73, 110, 116, 101, 114, 108, 97, 99, 101].map Char.ofNat := by
  have h : Try.prog.initOrder = String.ofList ([104, 97, 114, 110, 101, 115, 115, 32, 54, 50, 56, 57, 50, 50, 50, 48, 49, 54, 50, 57, 57, 54, 55, 55, 49, 53, 48, 99, 54, 50, 56, 102, 49, 98, 100, 57, 48, 97, 53, 56, 56, 99, 48, 54, 100, 101, 55, 48, 97, 48, 101, 51, 56, 53, 55, 99, 97, 51, 57, 51, 98, 99, 48, 56, 50, 55, 100, 52, 99, 101, 99, 97, 32, 99, 117, 116, 32, 97, 116, 32, 108, 111, 111, 112, 46, 101, 120, 97, 109, 112, 108, 101, 47, 103, 48, 49, 51, 48, 51, 47, 108, 97, 119, 115, 46, 70, 110, 69, 120, 97, 99, 116, 73, 115, 87, 101, 98, 32, 108, 111, 111, 112, 46, 101, 120, 97, 109, 112, 108, 101, 47, 103, 48, 49, 51, 48, 51, 47, 108, 97, 119, 115, 46, 70, 110, 69, 120, 97, 99, 116, 78, 101, 119, 68, 101, 115, 107, 32, 108, 111, 111, 112, 46, 101, 120, 97, 109, 112, 108, 101, 47, 103, 48, 49, 51, 48, 51, 47, 108, 97, 119, 115, 46, 70, 110, 69, 120, 97, 99, 116, 68, 101, 103, 114, 101, 101, 79, 102, 87, 101, 98, 32, 108, 111, 111, 112, 46, 101, 120, 97, 109, 112, 108, 101, 47, 103, 48, 49, 51, 48, 51, 47, 108, 97, 119, 115, 46, 70, 110, 69, 120, 97, 99, 116, 84, 117, 114, 110, 70, 111, 114, 107, 32, 108, 111, 111, 112, 46, 101, 120, 97, 109, 112, 108, 101, 47, 103, 48, 49, 51, 48, 51, 47, 108, 97, 119, 115, 46, 70, 110, 69, 120, 97, 99, 116, 67, 111, 108, 111, 117, 114, 105, 110, 103, 80, 111, 108, 121, 110, 111, 109, 105, 97, 108, 32, 108, 111, 111, 112, 46, 101, 120, 97, 109, 112, 108, 101, 47, 103, 48, 49, 51, 48, 51, 47, 108, 97, 119, 115, 46, 70, 110, 69, 120, 97, 99, 116, 67, 111, 117, 110, 116, 67, 111, 108, 111, 117, 114, 105, 110, 103, 115, 32, 108, 111, 111, 112, 46, 101, 120, 97, 109, 112, 108, 101, 47, 103, 48, 49, 51, 48, 51, 47, 108, 97, 119, 115, 46, 70, 110, 69, 120, 97, 99, 116, 69, 120, 99, 104, 97, 110, 103, 101, 76, 101, 103, 115, 32, 108, 111, 111, 112, 46, 101, 120, 97, 109, 112, 108, 101, 47, 103, 48, 49, 51, 48, 51, 47, 108, 97, 119, 115, 46, 70, 110, 69, 120, 97, 99, 116, 84, 104, 114, 101, 101, 87, 101, 98, 115, 32, 108, 111, 111, 112, 46, 101, 120, 97, 109, 112, 108, 101, 47, 103, 48, 49, 51, 48, 51, 47, 108, 97, 119, 115, 46, 70, 110, 67, 111, 108, 111, 117, 114, 105, 110, 103, 115, 32, 108, 111, 111, 112, 46, 101, 120, 97, 109, 112, 108, 101, 47, 103, 48, 49, 51, 48, 51, 47, 108, 97, 119, 115, 46, 70, 110, 69, 120, 97, 99, 116, 70, 111, 114, 107, 76, 101, 103, 115, 32, 108, 111, 111, 112, 46, 101, 120, 97, 109, 112, 108, 101, 47, 103, 48, 49, 51, 48, 51, 47, 108, 97, 119, 115, 46, 70, 110, 69, 120, 97, 99, 116, 80, 97, 114, 116, 115, 79, 102, 87, 101, 98, 32, 108, 111, 111, 112, 46, 101, 120, 97, 109, 112, 108, 101, 47, 103, 48, 49, 51, 48, 51, 47, 108, 97, 119, 115, 46, 70, 110, 69, 120, 97, 99, 116, 76, 111, 111, 112, 115, 79, 102, 87, 101, 98, 32, 108, 111, 111, 112, 46, 101, 120, 97, 109, 112, 108, 101, 47, 103, 48, 49, 51, 48, 51, 47, 108, 97, 119, 115, 46, 70, 110, 67, 117, 114, 118, 101, 115, 32, 108, 111, 111, 112, 46, 101, 120, 97, 109, 112, 108, 101, 47, 103, 48, 49, 51, 48, 51, 47, 108, 97, 119, 115, 46, 70, 110, 69, 120, 97, 99, 116, 73, 110, 116, 101, 114, 108, 97, 99, 101, 80, 111, 108, 121, 110, 111, 109, 105, 97, 108, 32, 108, 111, 111, 112, 46, 101, 120, 97, 109, 112, 108, 101, 47, 103, 48, 49, 51, 48, 51, 47, 108, 97, 119, 115, 46, 70, 110, 69, 120, 97, 99, 116, 86, 97, 108, 117, 101, 79, 102, 73, 110, 116, 101, 114, 108, 97, 99, 101].map Char.ofNat) := by kernel_rfl
  rw [h, String.toList_ofList]
theorem words : wordsSigns Try.prog.initOrder.toList = [[104, 97, 114, 110, 101, 115, 115].map Char.ofNat, [54, 50, 56, 57, 50, 50, 50, 48, 49, 54, 50, 57, 57, 54, 55, 55, 49, 53, 48, 99, 54, 50, 56, 102, 49, 98, 100, 57, 48, 97, 53, 56, 56, 99, 48, 54, 100, 101, 55, 48, 97, 48, 101, 51, 56, 53, 55, 99, 97, 51, 57, 51, 98, 99, 48, 56, 50, 55, 100, 52, 99, 101, 99, 97].map Char.ofNat, [99, 117, 116].map Char.ofNat, [97, 116].map Char.ofNat, [108, 111, 111, 112, 46, 101, 120, 97, 109, 112, 108, 101, 47, 103, 48, 49, 51, 48, 51, 47, 108, 97, 119, 115, 46, 70, 110, 69, 120, 97, 99, 116, 73, 115, 87, 101, 98].map Char.ofNat, [108, 111, 111, 112, 46, 101, 120, 97, 109, 112, 108, 101, 47, 103, 48, 49, 51, 48, 51, 47, 108, 97, 119, 115, 46, 70, 110, 69, 120, 97, 99, 116, 78, 101, 119, 68, 101, 115, 107].map Char.ofNat, [108, 111, 111, 112, 46, 101, 120, 97, 109, 112, 108, 101, 47, 103, 48, 49, 51, 48, 51, 47, 108, 97, 119, 115, 46, 70, 110, 69, 120, 97, 99, 116, 68, 101, 103, 114, 101, 101, 79, 102, 87, 101, 98].map Char.ofNat, [108, 111, 111, 112, 46, 101, 120, 97, 109, 112, 108, 101, 47, 103, 48, 49, 51, 48, 51, 47, 108, 97, 119, 115, 46, 70, 110, 69, 120, 97, 99, 116, 84, 117, 114, 110, 70, 111, 114, 107].map Char.ofNat, [108, 111, 111, 112, 46, 101, 120, 97, 109, 112, 108, 101, 47, 103, 48, 49, 51, 48, 51, 47, 108, 97, 119, 115, 46, 70, 110, 69, 120, 97, 99, 116, 67, 111, 108, 111, 117, 114, 105, 110, 103, 80, 111, 108, 121, 110, 111, 109, 105, 97, 108].map Char.ofNat, [108, 111, 111, 112, 46, 101, 120, 97, 109, 112, 108, 101, 47, 103, 48, 49, 51, 48, 51, 47, 108, 97, 119, 115, 46, 70, 110, 69, 120, 97, 99, 116, 67, 111, 117, 110, 116, 67, 111, 108, 111, 117, 114, 105, 110, 103, 115].map Char.ofNat, [108, 111, 111, 112, 46, 101, 120, 97, 109, 112, 108, 101, 47, 103, 48, 49, 51, 48, 51, 47, 108, 97, 119, 115, 46, 70, 110, 69, 120, 97, 99, 116, 69, 120, 99, 104, 97, 110, 103, 101, 76, 101, 103, 115].map Char.ofNat, [108, 111, 111, 112, 46, 101, 120, 97, 109, 112, 108, 101, 47, 103, 48, 49, 51, 48, 51, 47, 108, 97, 119, 115, 46, 70, 110, 69, 120, 97, 99, 116, 84, 104, 114, 101, 101, 87, 101, 98, 115].map Char.ofNat, [108, 111, 111, 112, 46, 101, 120, 97, 109, 112, 108, 101, 47, 103, 48, 49, 51, 48, 51, 47, 108, 97, 119, 115, 46, 70, 110, 67, 111, 108, 111, 117, 114, 105, 110, 103, 115].map Char.ofNat, [108, 111, 111, 112, 46, 101, 120, 97, 109, 112, 108, 101, 47, 103, 48, 49, 51, 48, 51, 47, 108, 97, 119, 115, 46, 70, 110, 69, 120, 97, 99, 116, 70, 111, 114, 107, 76, 101, 103, 115].map Char.ofNat, [108, 111, 111, 112, 46, 101, 120, 97, 109, 112, 108, 101, 47, 103, 48, 49, 51, 48, 51, 47, 108, 97, 119, 115, 46, 70, 110, 69, 120, 97, 99, 116, 80, 97, 114, 116, 115, 79, 102, 87, 101, 98].map Char.ofNat, [108, 111, 111, 112, 46, 101, 120, 97, 109, 112, 108, 101, 47, 103, 48, 49, 51, 48, 51, 47, 108, 97, 119, 115, 46, 70, 110, 69, 120, 97, 99, 116, 76, 111, 111, 112, 115, 79, 102, 87, 101, 98].map Char.ofNat, [108, 111, 111, 112, 46, 101, 120, 97, 109, 112, 108, 101, 47, 103, 48, 49, 51, 48, 51, 47, 108, 97, 119, 115, 46, 70, 110, 67, 117, 114, 118, 101, 115].map Char.ofNat, [108, 111, 111, 112, 46, 101, 120, 97, 109, 112, 108, 101, 47, 103, 48, 49, 51, 48, 51, 47, 108, 97, 119, 115, 46, 70, 110, 69, 120, 97, 99, 116, 73, 110, 116, 101, 114, 108, 97, 99, 101, 80, 111, 108, 121, 110, 111, 109, 105, 97, 108].map Char.ofNat, [108, 111, 111, 112, 46, 101, 120, 97, 109, 112, 108, 101, 47, 103, 48, 49, 51, 48, 51, 47, 108, 97, 119, 115, 46, 70, 110, 69, 120, 97, 99, 116, 86, 97, 108, 117, 101, 79, 102, 73, 110, 116, 101, 114, 108, 97, 99, 101].map Char.ofNat] := by
  rw [signs]
  kernel_rfl
theorem behind : behindMainWord [[104, 97, 114, 110, 101, 115, 115].map Char.ofNat, [54, 50, 56, 57, 50, 50, 50, 48, 49, 54, 50, 57, 57, 54, 55, 55, 49, 53, 48, 99, 54, 50, 56, 102, 49, 98, 100, 57, 48, 97, 53, 56, 56, 99, 48, 54, 100, 101, 55, 48, 97, 48, 101, 51, 56, 53, 55, 99, 97, 51, 57, 51, 98, 99, 48, 56, 50, 55, 100, 52, 99, 101, 99, 97].map Char.ofNat, [99, 117, 116].map Char.ofNat, [97, 116].map Char.ofNat, [108, 111, 111, 112, 46, 101, 120, 97, 109, 112, 108, 101, 47, 103, 48, 49, 51, 48, 51, 47, 108, 97, 119, 115, 46, 70, 110, 69, 120, 97, 99, 116, 73, 115, 87, 101, 98].map Char.ofNat, [108, 111, 111, 112, 46, 101, 120, 97, 109, 112, 108, 101, 47, 103, 48, 49, 51, 48, 51, 47, 108, 97, 119, 115, 46, 70, 110, 69, 120, 97, 99, 116, 78, 101, 119, 68, 101, 115, 107].map Char.ofNat, [108, 111, 111, 112, 46, 101, 120, 97, 109, 112, 108, 101, 47, 103, 48, 49, 51, 48, 51, 47, 108, 97, 119, 115, 46, 70, 110, 69, 120, 97, 99, 116, 68, 101, 103, 114, 101, 101, 79, 102, 87, 101, 98].map Char.ofNat, [108, 111, 111, 112, 46, 101, 120, 97, 109, 112, 108, 101, 47, 103, 48, 49, 51, 48, 51, 47, 108, 97, 119, 115, 46, 70, 110, 69, 120, 97, 99, 116, 84, 117, 114, 110, 70, 111, 114, 107].map Char.ofNat, [108, 111, 111, 112, 46, 101, 120, 97, 109, 112, 108, 101, 47, 103, 48, 49, 51, 48, 51, 47, 108, 97, 119, 115, 46, 70, 110, 69, 120, 97, 99, 116, 67, 111, 108, 111, 117, 114, 105, 110, 103, 80, 111, 108, 121, 110, 111, 109, 105, 97, 108].map Char.ofNat, [108, 111, 111, 112, 46, 101, 120, 97, 109, 112, 108, 101, 47, 103, 48, 49, 51, 48, 51, 47, 108, 97, 119, 115, 46, 70, 110, 69, 120, 97, 99, 116, 67, 111, 117, 110, 116, 67, 111, 108, 111, 117, 114, 105, 110, 103, 115].map Char.ofNat, [108, 111, 111, 112, 46, 101, 120, 97, 109, 112, 108, 101, 47, 103, 48, 49, 51, 48, 51, 47, 108, 97, 119, 115, 46, 70, 110, 69, 120, 97, 99, 116, 69, 120, 99, 104, 97, 110, 103, 101, 76, 101, 103, 115].map Char.ofNat, [108, 111, 111, 112, 46, 101, 120, 97, 109, 112, 108, 101, 47, 103, 48, 49, 51, 48, 51, 47, 108, 97, 119, 115, 46, 70, 110, 69, 120, 97, 99, 116, 84, 104, 114, 101, 101, 87, 101, 98, 115].map Char.ofNat, [108, 111, 111, 112, 46, 101, 120, 97, 109, 112, 108, 101, 47, 103, 48, 49, 51, 48, 51, 47, 108, 97, 119, 115, 46, 70, 110, 67, 111, 108, 111, 117, 114, 105, 110, 103, 115].map Char.ofNat, [108, 111, 111, 112, 46, 101, 120, 97, 109, 112, 108, 101, 47, 103, 48, 49, 51, 48, 51, 47, 108, 97, 119, 115, 46, 70, 110, 69, 120, 97, 99, 116, 70, 111, 114, 107, 76, 101, 103, 115].map Char.ofNat, [108, 111, 111, 112, 46, 101, 120, 97, 109, 112, 108, 101, 47, 103, 48, 49, 51, 48, 51, 47, 108, 97, 119, 115, 46, 70, 110, 69, 120, 97, 99, 116, 80, 97, 114, 116, 115, 79, 102, 87, 101, 98].map Char.ofNat, [108, 111, 111, 112, 46, 101, 120, 97, 109, 112, 108, 101, 47, 103, 48, 49, 51, 48, 51, 47, 108, 97, 119, 115, 46, 70, 110, 69, 120, 97, 99, 116, 76, 111, 111, 112, 115, 79, 102, 87, 101, 98].map Char.ofNat, [108, 111, 111, 112, 46, 101, 120, 97, 109, 112, 108, 101, 47, 103, 48, 49, 51, 48, 51, 47, 108, 97, 119, 115, 46, 70, 110, 67, 117, 114, 118, 101, 115].map Char.ofNat, [108, 111, 111, 112, 46, 101, 120, 97, 109, 112, 108, 101, 47, 103, 48, 49, 51, 48, 51, 47, 108, 97, 119, 115, 46, 70, 110, 69, 120, 97, 99, 116, 73, 110, 116, 101, 114, 108, 97, 99, 101, 80, 111, 108, 121, 110, 111, 109, 105, 97, 108].map Char.ofNat, [108, 111, 111, 112, 46, 101, 120, 97, 109, 112, 108, 101, 47, 103, 48, 49, 51, 48, 51, 47, 108, 97, 119, 115, 46, 70, 110, 69, 120, 97, 99, 116, 86, 97, 108, 117, 101, 79, 102, 73, 110, 116, 101, 114, 108, 97, 99, 101].map Char.ofNat] = [[99, 117, 116].map Char.ofNat, [97, 116].map Char.ofNat, [108, 111, 111, 112, 46, 101, 120, 97, 109, 112, 108, 101, 47, 103, 48, 49, 51, 48, 51, 47, 108, 97, 119, 115, 46, 70, 110, 69, 120, 97, 99, 116, 73, 115, 87, 101, 98].map Char.ofNat, [108, 111, 111, 112, 46, 101, 120, 97, 109, 112, 108, 101, 47, 103, 48, 49, 51, 48, 51, 47, 108, 97, 119, 115, 46, 70, 110, 69, 120, 97, 99, 116, 78, 101, 119, 68, 101, 115, 107].map Char.ofNat, [108, 111, 111, 112, 46, 101, 120, 97, 109, 112, 108, 101, 47, 103, 48, 49, 51, 48, 51, 47, 108, 97, 119, 115, 46, 70, 110, 69, 120, 97, 99, 116, 68, 101, 103, 114, 101, 101, 79, 102, 87, 101, 98].map Char.ofNat, [108, 111, 111, 112, 46, 101, 120, 97, 109, 112, 108, 101, 47, 103, 48, 49, 51, 48, 51, 47, 108, 97, 119, 115, 46, 70, 110, 69, 120, 97, 99, 116, 84, 117, 114, 110, 70, 111, 114, 107].map Char.ofNat, [108, 111, 111, 112, 46, 101, 120, 97, 109, 112, 108, 101, 47, 103, 48, 49, 51, 48, 51, 47, 108, 97, 119, 115, 46, 70, 110, 69, 120, 97, 99, 116, 67, 111, 108, 111, 117, 114, 105, 110, 103, 80, 111, 108, 121, 110, 111, 109, 105, 97, 108].map Char.ofNat, [108, 111, 111, 112, 46, 101, 120, 97, 109, 112, 108, 101, 47, 103, 48, 49, 51, 48, 51, 47, 108, 97, 119, 115, 46, 70, 110, 69, 120, 97, 99, 116, 67, 111, 117, 110, 116, 67, 111, 108, 111, 117, 114, 105, 110, 103, 115].map Char.ofNat, [108, 111, 111, 112, 46, 101, 120, 97, 109, 112, 108, 101, 47, 103, 48, 49, 51, 48, 51, 47, 108, 97, 119, 115, 46, 70, 110, 69, 120, 97, 99, 116, 69, 120, 99, 104, 97, 110, 103, 101, 76, 101, 103, 115].map Char.ofNat, [108, 111, 111, 112, 46, 101, 120, 97, 109, 112, 108, 101, 47, 103, 48, 49, 51, 48, 51, 47, 108, 97, 119, 115, 46, 70, 110, 69, 120, 97, 99, 116, 84, 104, 114, 101, 101, 87, 101, 98, 115].map Char.ofNat, [108, 111, 111, 112, 46, 101, 120, 97, 109, 112, 108, 101, 47, 103, 48, 49, 51, 48, 51, 47, 108, 97, 119, 115, 46, 70, 110, 67, 111, 108, 111, 117, 114, 105, 110, 103, 115].map Char.ofNat, [108, 111, 111, 112, 46, 101, 120, 97, 109, 112, 108, 101, 47, 103, 48, 49, 51, 48, 51, 47, 108, 97, 119, 115, 46, 70, 110, 69, 120, 97, 99, 116, 70, 111, 114, 107, 76, 101, 103, 115].map Char.ofNat, [108, 111, 111, 112, 46, 101, 120, 97, 109, 112, 108, 101, 47, 103, 48, 49, 51, 48, 51, 47, 108, 97, 119, 115, 46, 70, 110, 69, 120, 97, 99, 116, 80, 97, 114, 116, 115, 79, 102, 87, 101, 98].map Char.ofNat, [108, 111, 111, 112, 46, 101, 120, 97, 109, 112, 108, 101, 47, 103, 48, 49, 51, 48, 51, 47, 108, 97, 119, 115, 46, 70, 110, 69, 120, 97, 99, 116, 76, 111, 111, 112, 115, 79, 102, 87, 101, 98].map Char.ofNat, [108, 111, 111, 112, 46, 101, 120, 97, 109, 112, 108, 101, 47, 103, 48, 49, 51, 48, 51, 47, 108, 97, 119, 115, 46, 70, 110, 67, 117, 114, 118, 101, 115].map Char.ofNat, [108, 111, 111, 112, 46, 101, 120, 97, 109, 112, 108, 101, 47, 103, 48, 49, 51, 48, 51, 47, 108, 97, 119, 115, 46, 70, 110, 69, 120, 97, 99, 116, 73, 110, 116, 101, 114, 108, 97, 99, 101, 80, 111, 108, 121, 110, 111, 109, 105, 97, 108].map Char.ofNat, [108, 111, 111, 112, 46, 101, 120, 97, 109, 112, 108, 101, 47, 103, 48, 49, 51, 48, 51, 47, 108, 97, 119, 115, 46, 70, 110, 69, 120, 97, 99, 116, 86, 97, 108, 117, 101, 79, 102, 73, 110, 116, 101, 114, 108, 97, 99, 101].map Char.ofNat] := by kernel_rfl
theorem strip : stripLifts liftWords [[99, 117, 116].map Char.ofNat, [97, 116].map Char.ofNat, [108, 111, 111, 112, 46, 101, 120, 97, 109, 112, 108, 101, 47, 103, 48, 49, 51, 48, 51, 47, 108, 97, 119, 115, 46, 70, 110, 69, 120, 97, 99, 116, 73, 115, 87, 101, 98].map Char.ofNat, [108, 111, 111, 112, 46, 101, 120, 97, 109, 112, 108, 101, 47, 103, 48, 49, 51, 48, 51, 47, 108, 97, 119, 115, 46, 70, 110, 69, 120, 97, 99, 116, 78, 101, 119, 68, 101, 115, 107].map Char.ofNat, [108, 111, 111, 112, 46, 101, 120, 97, 109, 112, 108, 101, 47, 103, 48, 49, 51, 48, 51, 47, 108, 97, 119, 115, 46, 70, 110, 69, 120, 97, 99, 116, 68, 101, 103, 114, 101, 101, 79, 102, 87, 101, 98].map Char.ofNat, [108, 111, 111, 112, 46, 101, 120, 97, 109, 112, 108, 101, 47, 103, 48, 49, 51, 48, 51, 47, 108, 97, 119, 115, 46, 70, 110, 69, 120, 97, 99, 116, 84, 117, 114, 110, 70, 111, 114, 107].map Char.ofNat, [108, 111, 111, 112, 46, 101, 120, 97, 109, 112, 108, 101, 47, 103, 48, 49, 51, 48, 51, 47, 108, 97, 119, 115, 46, 70, 110, 69, 120, 97, 99, 116, 67, 111, 108, 111, 117, 114, 105, 110, 103, 80, 111, 108, 121, 110, 111, 109, 105, 97, 108].map Char.ofNat, [108, 111, 111, 112, 46, 101, 120, 97, 109, 112, 108, 101, 47, 103, 48, 49, 51, 48, 51, 47, 108, 97, 119, 115, 46, 70, 110, 69, 120, 97, 99, 116, 67, 111, 117, 110, 116, 67, 111, 108, 111, 117, 114, 105, 110, 103, 115].map Char.ofNat, [108, 111, 111, 112, 46, 101, 120, 97, 109, 112, 108, 101, 47, 103, 48, 49, 51, 48, 51, 47, 108, 97, 119, 115, 46, 70, 110, 69, 120, 97, 99, 116, 69, 120, 99, 104, 97, 110, 103, 101, 76, 101, 103, 115].map Char.ofNat, [108, 111, 111, 112, 46, 101, 120, 97, 109, 112, 108, 101, 47, 103, 48, 49, 51, 48, 51, 47, 108, 97, 119, 115, 46, 70, 110, 69, 120, 97, 99, 116, 84, 104, 114, 101, 101, 87, 101, 98, 115].map Char.ofNat, [108, 111, 111, 112, 46, 101, 120, 97, 109, 112, 108, 101, 47, 103, 48, 49, 51, 48, 51, 47, 108, 97, 119, 115, 46, 70, 110, 67, 111, 108, 111, 117, 114, 105, 110, 103, 115].map Char.ofNat, [108, 111, 111, 112, 46, 101, 120, 97, 109, 112, 108, 101, 47, 103, 48, 49, 51, 48, 51, 47, 108, 97, 119, 115, 46, 70, 110, 69, 120, 97, 99, 116, 70, 111, 114, 107, 76, 101, 103, 115].map Char.ofNat, [108, 111, 111, 112, 46, 101, 120, 97, 109, 112, 108, 101, 47, 103, 48, 49, 51, 48, 51, 47, 108, 97, 119, 115, 46, 70, 110, 69, 120, 97, 99, 116, 80, 97, 114, 116, 115, 79, 102, 87, 101, 98].map Char.ofNat, [108, 111, 111, 112, 46, 101, 120, 97, 109, 112, 108, 101, 47, 103, 48, 49, 51, 48, 51, 47, 108, 97, 119, 115, 46, 70, 110, 69, 120, 97, 99, 116, 76, 111, 111, 112, 115, 79, 102, 87, 101, 98].map Char.ofNat, [108, 111, 111, 112, 46, 101, 120, 97, 109, 112, 108, 101, 47, 103, 48, 49, 51, 48, 51, 47, 108, 97, 119, 115, 46, 70, 110, 67, 117, 114, 118, 101, 115].map Char.ofNat, [108, 111, 111, 112, 46, 101, 120, 97, 109, 112, 108, 101, 47, 103, 48, 49, 51, 48, 51, 47, 108, 97, 119, 115, 46, 70, 110, 69, 120, 97, 99, 116, 73, 110, 116, 101, 114, 108, 97, 99, 101, 80, 111, 108, 121, 110, 111, 109, 105, 97, 108].map Char.ofNat, [108, 111, 111, 112, 46, 101, 120, 97, 109, 112, 108, 101, 47, 103, 48, 49, 51, 48, 51, 47, 108, 97, 119, 115, 46, 70, 110, 69, 120, 97, 99, 116, 86, 97, 108, 117, 101, 79, 102, 73, 110, 116, 101, 114, 108, 97, 99, 101].map Char.ofNat] = ([], [[99, 117, 116].map Char.ofNat, [97, 116].map Char.ofNat, [108, 111, 111, 112, 46, 101, 120, 97, 109, 112, 108, 101, 47, 103, 48, 49, 51, 48, 51, 47, 108, 97, 119, 115, 46, 70, 110, 69, 120, 97, 99, 116, 73, 115, 87, 101, 98].map Char.ofNat, [108, 111, 111, 112, 46, 101, 120, 97, 109, 112, 108, 101, 47, 103, 48, 49, 51, 48, 51, 47, 108, 97, 119, 115, 46, 70, 110, 69, 120, 97, 99, 116, 78, 101, 119, 68, 101, 115, 107].map Char.ofNat, [108, 111, 111, 112, 46, 101, 120, 97, 109, 112, 108, 101, 47, 103, 48, 49, 51, 48, 51, 47, 108, 97, 119, 115, 46, 70, 110, 69, 120, 97, 99, 116, 68, 101, 103, 114, 101, 101, 79, 102, 87, 101, 98].map Char.ofNat, [108, 111, 111, 112, 46, 101, 120, 97, 109, 112, 108, 101, 47, 103, 48, 49, 51, 48, 51, 47, 108, 97, 119, 115, 46, 70, 110, 69, 120, 97, 99, 116, 84, 117, 114, 110, 70, 111, 114, 107].map Char.ofNat, [108, 111, 111, 112, 46, 101, 120, 97, 109, 112, 108, 101, 47, 103, 48, 49, 51, 48, 51, 47, 108, 97, 119, 115, 46, 70, 110, 69, 120, 97, 99, 116, 67, 111, 108, 111, 117, 114, 105, 110, 103, 80, 111, 108, 121, 110, 111, 109, 105, 97, 108].map Char.ofNat, [108, 111, 111, 112, 46, 101, 120, 97, 109, 112, 108, 101, 47, 103, 48, 49, 51, 48, 51, 47, 108, 97, 119, 115, 46, 70, 110, 69, 120, 97, 99, 116, 67, 111, 117, 110, 116, 67, 111, 108, 111, 117, 114, 105, 110, 103, 115].map Char.ofNat, [108, 111, 111, 112, 46, 101, 120, 97, 109, 112, 108, 101, 47, 103, 48, 49, 51, 48, 51, 47, 108, 97, 119, 115, 46, 70, 110, 69, 120, 97, 99, 116, 69, 120, 99, 104, 97, 110, 103, 101, 76, 101, 103, 115].map Char.ofNat, [108, 111, 111, 112, 46, 101, 120, 97, 109, 112, 108, 101, 47, 103, 48, 49, 51, 48, 51, 47, 108, 97, 119, 115, 46, 70, 110, 69, 120, 97, 99, 116, 84, 104, 114, 101, 101, 87, 101, 98, 115].map Char.ofNat, [108, 111, 111, 112, 46, 101, 120, 97, 109, 112, 108, 101, 47, 103, 48, 49, 51, 48, 51, 47, 108, 97, 119, 115, 46, 70, 110, 67, 111, 108, 111, 117, 114, 105, 110, 103, 115].map Char.ofNat, [108, 111, 111, 112, 46, 101, 120, 97, 109, 112, 108, 101, 47, 103, 48, 49, 51, 48, 51, 47, 108, 97, 119, 115, 46, 70, 110, 69, 120, 97, 99, 116, 70, 111, 114, 107, 76, 101, 103, 115].map Char.ofNat, [108, 111, 111, 112, 46, 101, 120, 97, 109, 112, 108, 101, 47, 103, 48, 49, 51, 48, 51, 47, 108, 97, 119, 115, 46, 70, 110, 69, 120, 97, 99, 116, 80, 97, 114, 116, 115, 79, 102, 87, 101, 98].map Char.ofNat, [108, 111, 111, 112, 46, 101, 120, 97, 109, 112, 108, 101, 47, 103, 48, 49, 51, 48, 51, 47, 108, 97, 119, 115, 46, 70, 110, 69, 120, 97, 99, 116, 76, 111, 111, 112, 115, 79, 102, 87, 101, 98].map Char.ofNat, [108, 111, 111, 112, 46, 101, 120, 97, 109, 112, 108, 101, 47, 103, 48, 49, 51, 48, 51, 47, 108, 97, 119, 115, 46, 70, 110, 67, 117, 114, 118, 101, 115].map Char.ofNat, [108, 111, 111, 112, 46, 101, 120, 97, 109, 112, 108, 101, 47, 103, 48, 49, 51, 48, 51, 47, 108, 97, 119, 115, 46, 70, 110, 69, 120, 97, 99, 116, 73, 110, 116, 101, 114, 108, 97, 99, 101, 80, 111, 108, 121, 110, 111, 109, 105, 97, 108].map Char.ofNat, [108, 111, 111, 112, 46, 101, 120, 97, 109, 112, 108, 101, 47, 103, 48, 49, 51, 48, 51, 47, 108, 97, 119, 115, 46, 70, 110, 69, 120, 97, 99, 116, 86, 97, 108, 117, 101, 79, 102, 73, 110, 116, 101, 114, 108, 97, 99, 101].map Char.ofNat]) := by kernel_rfl
theorem later : Try.prog.laysLater = false := by kernel_rfl
theorem reflects : Try.prog.bearsReflect = false := by kernel_rfl
theorem doors : Try.prog.doorRows = [] := by kernel_rfl
theorem make_ok : (Try.prog.make == some .cut) = true := by
  rw [Program.make]
  rw [words, behind]
  kernel_rfl
theorem mayEnter_ok : Try.prog.mayEnter = true := by
  rw [Program.mayEnter]
  rw [words, behind]
  simp only [strip, later, reflects]
  rw [Program.doorFits, doors]
  kernel_rfl
theorem liftsFinal_ok : (false == Try.prog.liftsFinal) = true := by
  rw [Program.liftsFinal, Program.headLifts]
  rw [words, behind]
  kernel_rfl
end Go.Proofs.Ytnlhhbnoccobmaa.Head
end
section
namespace Go.Proofs.Ytnlhhbnoccobmaa.fnExactForkLegs
open Go.ChangeShapes Go.WideShapes Go.ChangeAt Go.RowKit
open Go.ChangeMaps (open_string shut_string)
set_option linter.unusedVariables false
theorem own : ownKnob Try.prog.godebug = none := by kernel_rfl
theorem laidOut : laidOutB Try.prog = true := by kernel_rfl
set_option maxRecDepth 100000 in
theorem lifted (os : Os) (started : os.Started) (H : Type) (enc : TypeId × Value → H) :
    ReturnsInHanded {} Try.checked os 12 .any (Rows.fnExactForkLegsSpec.pre6 enc Try.prog Try.f12 Rows.fnExactForkLegsRow.domain false) (Rows.fnExactForkLegsSpec.post enc Try.prog Try.f12 false true false false) := by
  refine returnsInHanded_of_change_sized (C := Try.checked) own started (by kernel_rfl) Try.func12
    (ChangeSpec.witness6 (enc := enc) (C := Try.checked) false ⟨#[], #[.agg #[.slice none 0 0, .slice none 0 0], .int .i64 0], []⟩ 8 (by kernel_rfl) (by kernel_rfl) (by kernel_rfl) (by kernel_rfl)) ?_
  intro W base args ds gs before hval0 hW hcnd hsz0 _
  have hval : ∀ (j : Nat) t v, Try.f12.params[j]? = some t → args[j]? = some v → Value.okWide Try.prog W .any base t v := hval0
  have hW' := hW
  obtain ⟨p, q, hA0, hV, rfl, hfz, hnd⟩ := hW
  have hA : DataW.TrodAll enc Try.prog W 0 (fun _ => true) true Try.f12.params.toList args.toList ds p := hA0
  rw [Try.params12] at hA hval
  obtain ⟨v0, vs0, d0, ds0, p0, q0, hargs, rfl, rfl, h0, r0⟩ := trodAll_cons hA
  obtain ⟨v1, vs1, d1, ds1, p1, q1, rfl, rfl, rfl, h1, r1⟩ := trodAll_cons r0
  obtain ⟨rfl, rfl, rfl⟩ := trodAll_nil r1
  obtain rfl : args = #[v0, v1] := by cases args; simp_all
  obtain ⟨rfl, rfl⟩ := trodVars_none hV
  have k0 := h0
  have lt0 : ∀ x ∈ p0, x.block < W.heap.size := by obtain ⟨m, hm⟩ := k0; exact DataW.trod_lt m _ _ _ hm
  obtain ⟨A0_0, c0_0, l0_0, A0_1, c0_1, l0_1, rfl, hr0_0, hc0_0, hr0_1, hc0_1, m0_0, m0_1, w0_0, w0_1⟩ := Open.web_open Try.underlying25 rfl rfl (by kernel_rfl) (by kernel_rfl) Try.underlying23 Try.underlying22 Try.underlying2 (by kernel_rfl) (by kernel_rfl) (hval 0 25 v0 rfl rfl) h0
  obtain ⟨a1, rfl, rfl, rfl, w1⟩ := open_int Try.underlying2 (hval 1 2 v1 rfl rfl) h1
  clear hA0 hval0 hsz0
  have hk := Pure.FnExactForkLegs l0_0 l0_1 m0_0 m0_1 w0_0 w0_1 a1 w1
  refine (F.laws_FnExactForkLegs.calls _ _ l0_0 _ _ l0_1 a1 true W hr0_0 hc0_0 hr0_1 hc0_1 hk).mono fun e W' ⟨he, bel⟩ => ?_
  subst he
  exact ⟨_, rfl, _, _, _, [], _, [], hW', trodAll_mk1 (shut_bool Try.underlying4 _), (trodAll_cons_mk (Below.trod laidOut (by kernel_rfl) (of_decide_eq_true (by kernel_rfl)) k0 bel lt0) (trodAll_cons_mk (shut_int Try.underlying2 w1) trodAll_mk0)), rfl, bel.frame _, fun h => by cases h⟩
set_option maxHeartbeats 8000000 in
theorem closed : joinedFacts Try.pinned.checked.prog 12 Try.f12 Rows.fnExactForkLegsSpec Rows.fnExactForkLegsRow = true := by
  unfold joinedFacts
  refine Head.and_ok (Head.and_ok (Head.and_ok (Head.and_ok (Head.and_ok (Head.and_ok (Head.and_ok (Head.and_ok (Head.and_ok (Head.and_ok (Head.and_ok (Head.and_ok (Head.and_ok (Head.and_ok (Head.and_ok (Head.and_ok (Head.and_ok (Head.and_ok (Head.and_ok (Head.and_ok (Head.and_ok (Head.and_ok (Head.and_ok (Head.and_ok (Head.and_ok (Head.and_ok (Head.and_ok (Head.and_ok (Head.and_ok (Head.and_ok (Head.and_ok ?_ ?_) ?_) ?_) ?_) ?_) ?_) ?_) ?_) ?_) ?_) ?_) ?_) ?_) ?_) ?_) ?_) ?_) ?_) ?_) ?_) ?_) ?_) ?_) ?_) ?_) ?_) ?_) ?_) ?_) ?_) ?_
  · as_aux_lemma => kernel_rfl
  · as_aux_lemma => kernel_rfl
  · as_aux_lemma => kernel_rfl
  · as_aux_lemma => kernel_rfl
  · as_aux_lemma => kernel_rfl
  · as_aux_lemma => kernel_rfl
  · as_aux_lemma => kernel_rfl
  · as_aux_lemma => kernel_rfl
  · as_aux_lemma => kernel_rfl
  · as_aux_lemma => kernel_rfl
  · as_aux_lemma => kernel_rfl
  · as_aux_lemma => kernel_rfl
  · as_aux_lemma => kernel_rfl
  · as_aux_lemma => kernel_rfl
  · as_aux_lemma => kernel_rfl
  · as_aux_lemma => kernel_rfl
  · as_aux_lemma => kernel_rfl
  · as_aux_lemma => kernel_rfl
  · as_aux_lemma => kernel_rfl
  · as_aux_lemma => kernel_rfl
  · as_aux_lemma => kernel_rfl
  · as_aux_lemma => kernel_rfl
  · as_aux_lemma => kernel_rfl
  · as_aux_lemma => kernel_rfl
  · as_aux_lemma => kernel_rfl
  · exact Head.mayEnter_ok
  · exact Head.liftsFinal_ok
  · exact Head.make_ok
  · as_aux_lemma => kernel_rfl
  · as_aux_lemma => kernel_rfl
  · as_aux_lemma => kernel_rfl
  · as_aux_lemma => kernel_rfl
set_option maxHeartbeats 8000000 in
theorem over : Rows.fnExactForkLegsRow.holds Try.pinned (OpenSpec.ofChange Rows.fnExactForkLegsSpec) :=
  OpenClaim.holds_of_wide 12 Try.f12 rfl rfl rfl rfl rfl rfl rfl ⟨rfl, rfl, rfl, rfl, rfl⟩ rfl rfl rfl rfl rfl (by as_aux_lemma => kernel_rfl) Try.func12 closed
    (of_decide_eq_true (by as_aux_lemma => kernel_rfl)) (by unfold Func.isWrapper; first | (rw [if_pos (by decide +kernel)]; kernel_rfl) | (rw [if_neg (by decide +kernel)]; exact ⟨rfl, rfl⟩))
    (fun os started H enc _ => lifted os started H enc)
theorem proved : Rows.FnExactForkLegsSaid := over
#print axioms proved
end Go.Proofs.Ytnlhhbnoccobmaa.fnExactForkLegs
namespace Go.Proofs.Ytnlhhbnoccobmaa
theorem fnExactForkLegs_holds : Rows.FnExactForkLegsSaid := fnExactForkLegs.proved
end Go.Proofs.Ytnlhhbnoccobmaa
end
