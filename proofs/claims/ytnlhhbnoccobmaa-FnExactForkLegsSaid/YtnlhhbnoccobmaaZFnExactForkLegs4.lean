/- Words, walks and plain laws that the row of the law FnExactForkLegs uses. -/
import Derived.Test.YtnlhhbnoccobmaaZFnExactForkLegs3
import Derived.Maps.OwnRows
import Derived.Maps.OwnSet
import Derived.Maps.RangeWalk
import Derived.Maps.AppendAt
import Derived.Maps.GroupsBeside
import Derived.Deep.RegionLaw
import Derived.Deep.RegionLawGrows
import Derived.WalkSpells
import Derived.BigQuiet
import Derived.Deep.RegionWith
section
namespace Go.Proofs.Ytnlhhbnoccobmaa.F
open Go.RowKit Go.Proofs.YtnlhhbnoccobmaaW.PrintWords Go.Proofs.YtnlhhbnoccobmaaW.PrintLast Go.Proofs.YtnlhhbnoccobmaaW.PrintMore
attribute [local go_sem] max2_int min2_int max_two min_two max_three min_three max_four min_four   
set_option linter.unusedVariables false
set_option linter.unusedSimpArgs false
mutual
def spec_ForkLegs.l0 : Nat → Int → Int → Bool → List Int → List (List Int) → Option (List Int × (List (List Int)) × Int)
 | 0, _, _, _, _, _ => none
 | k + 1, x1, x7, x8, x561002000, x561002001 => if x8 = true then ((spec_l06Find.f k x561002000 x7).bind fun t561036 => (spec_ForkLegs.l1 k x1 x7 (decide (t561036 ≥ 0)) 0 x561002000 x561002001)) else ((spec_l06Copy.f k x561002000 x561002001).bind fun bt561004 => (if 0 ≤ x1 then (if x1 < (x561002000.length : Int) then (if 0 ≤ (wrap64 (x1 + 1)) then (if (wrap64 (x1 + 1)) < (x561002000.length : Int) then ((some (([(([x7, rd x561002000 x1, rd x561002000 (wrap64 (x1 + 1))] : List Int))] : List (List Int)) : List (List Int))).bind fun y561016 => (if bt561004.2.length + y561016.length < 5864062014805 then (if x1 ≤ (x561002000.length : Int) then ((spec_l01Own.f (x561002000.take (x1 : Int).toNat)).bind fun t561023 => ((some (([x7] : List Int) : List Int)).bind fun y561026 => (if t561023.length + y561026.length < 17592186044416 then ((some (t561023 ++ y561026 : List Int)).bind fun y561029 => (if 0 ≤ (wrap64 (x1 + 2)) then (if (wrap64 (x1 + 2)) ≤ (x561002000.length : Int) then (if y561029.length + (x561002000.drop ((wrap64 (x1 + 2)) : Int).toNat).length < 17592186044416 then (some ((y561029 ++ (x561002000.drop ((wrap64 (x1 + 2)) : Int).toNat)), (bt561004.2 ++ y561016), 0)) else (none)) else (none)) else (none))) else (none)))) else (none)) else (none))) else (none)) else (none)) else (none)) else (none)))
def spec_ForkLegs.l1 : Nat → Int → Int → Bool → Int → List Int → List (List Int) → Option (List Int × (List (List Int)) × Int)
 | 0, _, _, _, _, _, _ => none
 | k + 1, x1, x7, x8, x9, x561002000, x561002001 => if x9 < (x561002001.length : Int) then (if x8 = true then (spec_ForkLegs.l1 k x1 x7 true (wrap64 (x9 + 1)) x561002000 x561002001) else (if 0 ≤ x9 then ((spec_l06Find.f k (rd_L1 x561002001 x9) x7).bind fun t561038 => (spec_ForkLegs.l1 k x1 x7 (decide (t561038 ≥ 0)) (wrap64 (x9 + 1)) x561002000 x561002001)) else (none))) else (if x8 = true then (spec_ForkLegs.l0 k x1 (wrap64 (x7 + 1)) x8 x561002000 x561002001) else (spec_ForkLegs.l0 k x1 x7 x8 x561002000 x561002001))
end
def spec_ForkLegs.f (k : Nat) (l0_0 : List Int) (l0_1 : List (List Int)) (a1 : Int) : Option (List Int × (List (List Int)) × Int) := (spec_l06Code.f k l0_0 l0_1 a1).bind fun t561003 => (if t561003 = 0 then (spec_ForkLegs.l0 k a1 0 true l0_0 l0_1) else (some (([] : List Int), ([] : List (List Int)), t561003)))
theorem spec_ForkLegs.mono_l : ∀ k, (∀ y0 y1 y2 y3 y4, LeO (spec_ForkLegs.l0 k y0 y1 y2 y3 y4) (spec_ForkLegs.l0 (k + 1) y0 y1 y2 y3 y4)) ∧ (∀ y0 y1 y2 y3 y4 y5, LeO (spec_ForkLegs.l1 k y0 y1 y2 y3 y4 y5) (spec_ForkLegs.l1 (k + 1) y0 y1 y2 y3 y4 y5))
 | 0 => ⟨fun _ _ _ _ _ r h => by simp [spec_ForkLegs.l0] at h, fun _ _ _ _ _ _ r h => by simp [spec_ForkLegs.l1] at h⟩
 | k + 1 => by
  obtain ⟨ih0, ih1⟩ := spec_ForkLegs.mono_l k
  refine ⟨?_, ?_⟩
  ·intro y0 y1 y2 y3 y4
   unfold spec_ForkLegs.l0
   repeat' first
   | (with_reducible exact ih0 _ _ _ _ _)
   | (with_reducible exact ih1 _ _ _ _ _ _)
   | (with_reducible exact spec_l06Code.mono _ _ _ _)
   | (with_reducible exact spec_l06Copy.mono _ _ _)
   | (with_reducible exact spec_l06Find.mono _ _ _)
   | (with_reducible exact LeO.refl _)
   | (with_reducible exact LeO.none _)
   | (with_reducible refine LeO.ite ?_ ?_)
   | (with_reducible refine LeO.bind ?_ (fun _ => ?_))
   | exact ih0 _ _ _ _ _
   | exact ih1 _ _ _ _ _ _
   | exact spec_l06Code.mono _ _ _ _
   | exact spec_l06Copy.mono _ _ _
   | exact spec_l06Find.mono _ _ _
   | exact LeO.none _
   | refine LeO.ite ?_ ?_
   | refine LeO.bind ?_ (fun _ => ?_)
  ·intro y0 y1 y2 y3 y4 y5
   unfold spec_ForkLegs.l1
   repeat' first
   | (with_reducible exact ih0 _ _ _ _ _)
   | (with_reducible exact ih1 _ _ _ _ _ _)
   | (with_reducible exact spec_l06Code.mono _ _ _ _)
   | (with_reducible exact spec_l06Copy.mono _ _ _)
   | (with_reducible exact spec_l06Find.mono _ _ _)
   | (with_reducible exact LeO.refl _)
   | (with_reducible exact LeO.none _)
   | (with_reducible refine LeO.ite ?_ ?_)
   | (with_reducible refine LeO.bind ?_ (fun _ => ?_))
   | exact ih0 _ _ _ _ _
   | exact ih1 _ _ _ _ _ _
   | exact spec_l06Code.mono _ _ _ _
   | exact spec_l06Copy.mono _ _ _
   | exact spec_l06Find.mono _ _ _
   | exact LeO.none _
   | refine LeO.ite ?_ ?_
   | refine LeO.bind ?_ (fun _ => ?_)
theorem spec_ForkLegs.mono : ∀ a0 a1 a2 k, LeO (spec_ForkLegs.f k a0 a1 a2) (spec_ForkLegs.f (k + 1) a0 a1 a2) := by
 intro a0 a1 a2 k
 obtain ⟨ih0, ih1⟩ := spec_ForkLegs.mono_l k
 unfold spec_ForkLegs.f
 repeat' first
   | (with_reducible exact ih0 _ _ _ _ _)
   | (with_reducible exact ih1 _ _ _ _ _ _)
   | (with_reducible exact spec_l06Code.mono _ _ _ _)
   | (with_reducible exact spec_l06Copy.mono _ _ _)
   | (with_reducible exact spec_l06Find.mono _ _ _)
   | (with_reducible exact LeO.refl _)
   | (with_reducible exact LeO.none _)
   | (with_reducible refine LeO.ite ?_ ?_)
   | (with_reducible refine LeO.bind ?_ (fun _ => ?_))
   | exact ih0 _ _ _ _ _
   | exact ih1 _ _ _ _ _ _
   | exact spec_l06Code.mono _ _ _ _
   | exact spec_l06Copy.mono _ _ _
   | exact spec_l06Find.mono _ _ _
   | exact LeO.none _
   | refine LeO.ite ?_ ?_
   | refine LeO.bind ?_ (fun _ => ?_)
def spec_ForkLegs.T15 : Bool × List (List Nat × List Nat) := (true, [([], []), ([0], [0]), ([], []), ([], []), ([3], [3]), ([], []), ([4, 5], [4, 5]), ([6], [6]), ([], []), ([8], [8]), ([], []), ([10], [10]), ([9, 11], [9, 11]), ([12], [12]), ([2, 7, 13], [2, 7, 13]), ([14], [14]), ([1, 15], [1, 15]), ([0, 1, 2, 3, 4, 5, 6, 7, 8, 9, 10, 11, 12, 13, 14, 15, 16], []), ([17, 16, 16, 0, 1, 2, 3, 4, 5, 6, 7, 8, 9, 10, 11, 12, 13, 14, 15, 16], [16, 17])])
def spec_ForkLegs.B15 : List Nat := [0, 1, 0, 0, 8, 0, 56, 120, 0, 256, 0, 1024, 3840, 7936, 16380, 32764, 65535, 131071, 262143]
theorem spec_ForkLegs.tab15 : rtab .any (opsOf Try.f56 15) = spec_ForkLegs.T15 := by kernel_rfl
theorem spec_ForkLegs.bits15 : waitsOk spec_ForkLegs.T15.2 spec_ForkLegs.B15 = true := by kernel_rfl
def spec_ForkLegs.T16 : Bool × List (List Nat × List Nat) := (true, [([], []), ([0], [0]), ([], []), ([1, 2], [1, 2]), ([3], [3]), ([], []), ([5], [5]), ([4, 6, 4], [4, 6]), ([], []), ([8], [8]), ([], []), ([10], [10]), ([9, 11], [9, 11]), ([7, 12, 7], [7, 12]), ([0, 1, 2, 3, 4, 5, 6, 7, 8, 9, 10, 11, 12, 13], []), ([14, 13, 13, 0, 1, 2, 3, 4, 5, 6, 7, 8, 9, 10, 11, 12, 13], [13, 14])])
def spec_ForkLegs.B16 : List Nat := [0, 1, 0, 7, 15, 0, 32, 127, 0, 256, 0, 1024, 3840, 8191, 16383, 32767]
theorem spec_ForkLegs.tab16 : rtab .any (opsOf Try.f56 16) = spec_ForkLegs.T16 := by kernel_rfl
theorem spec_ForkLegs.bits16 : waitsOk spec_ForkLegs.T16.2 spec_ForkLegs.B16 = true := by kernel_rfl
set_option maxHeartbeats 8000000 in
set_option maxRecDepth 100000 in
theorem spec_ForkLegs.calls (k : Nat) (A0_0 : Option Addr) (c0_0 : Nat) (l0_0 : List Int) (A0_1 : Option Addr) (c0_1 : Nat) (l0_1 : List (List Int)) (a1 : Int) (r1 : List Int) (r2 : List (List Int)) (r3 : Int) (w : World) (hr0_0 : Kd.C (Kd.int .i64) w A0_0 l0_0.length l0_0) (hc0_0 : l0_0.length ≤ c0_0) (hr0_1 : Kd.C (Kd.slice 2 (Kd.int .i64)) w A0_1 l0_1.length l0_1) (hc0_1 : l0_1.length ≤ c0_1) (h : spec_ForkLegs.f k l0_0 l0_1 a1 = some (r1, r2, r3)) :
  Calls Try.prog 56 #[.agg #[.slice A0_0 l0_0.length c0_0, .slice A0_1 l0_1.length c0_1], .int .i64 a1] w fun e w' => ∃ v0_ v1_ : Value, e = .returned (.tuple #[.agg #[v0_, v1_], .int .i64 r3]) ∧ Kd.R (Kd.int .i64) 2 w' w.heap.size (fun k_ => (w.heap.size ≤ k_)) v0_ r1 ∧ Kd.N (Kd.slice 2 (Kd.int .i64)) 22 w' w.heap.size (fun k_ => (w.heap.size ≤ k_) ∧ some k_ ≠ (v0_ : Value).ownBlock) v1_ r2 ∧ Below w.heap.size w w' := by
 have hu28 := Try.underlying28
 have HR0_0 := Aside0.mk hr0_0
 have HC0_0 := Aside0.mk hc0_0
 clear hr0_0 hc0_0
 have HR0_1 := Aside0.mk hr0_1
 have HC0_1 := Aside0.mk hc0_1
 clear hr0_1 hc0_1
 have HB := Aside0.mk (Below.refl w.heap.size w)
 have H : ((spec_l06Code.f k l0_0 l0_1 a1).bind fun t561003 => (if t561003 = 0 then (spec_ForkLegs.l0 k a1 0 true l0_0 l0_1) else (some (([] : List Int), ([] : List (List Int)), t561003)))) = some (r1, r2, r3) := h
 clear h
 replace H := Option.bind_eq_some_iff.mp H
 obtain ⟨t561003, A30, H⟩ := H
 replace H : (if t561003 = 0 then (spec_ForkLegs.l0 k a1 0 true l0_0 l0_1) else (some (([] : List Int), ([] : List (List Int)), t561003))) = some (r1, r2, r3) := H
 have A3 := Aside0.mk A30
 clear A30
 by_cases c4 : t561003 = 0
 ·rw [if_pos c4] at H
  have c4b0 : (t561003 == 0) = true := beq_iff_eq.mpr c4
  have c4b1 : (t561003 != 0) = false := bne_eq_false_iff_eq.mpr c4
  clear c4
  have H' := Aside0.mk H
  clear H
  go_enter Try.func56, Try.ntmps56
  go_wp2_with (first | ((with_reducible refine gate_dst (N := 2) rfl ?_); refine box_event ?hg (N := 2) ?hd (cs := #[.slice A0_0 l0_0.length c0_0, .slice A0_1 l0_1.length c0_1]) (t := 28) ?hr ?_; (case hd => rfl); (case hg => rfl); (case hr => first | (go_simp; done) | (go_simp; rfl)); intro gb561001 hg w5 hbox hb; have n0_ := Aside0.mk (below_step (by repeat (first | (with_reducible first | exact HB.out | apply below_alloc | apply pw_below_drewN | apply below_drew1) | exact HB.out)) hb); have n1_ := Aside0.mk (hbox); have n2_ := Aside0.mk ((by rw [hg]; exact (below_size (by repeat (first | (with_reducible first | exact HB.out | apply below_alloc | apply pw_below_drewN | apply below_drew1) | exact HB.out))) : w.heap.size ≤ gb561001)); have n3_ := Aside0.mk ((by rw [hg]; exact (below_size (by repeat (first | (with_reducible first | exact HB.out | apply below_alloc | apply pw_below_drewN | apply below_drew1) | exact HB.out))) : w.heap.size ≤ gb561001)); clear HB; have HB := n0_; have BK561001 := n1_; have GW561001 := n2_; have GE561001 := n3_; clear n0_ n1_ n2_ n3_; clear hb hbox hg) | ((with_reducible refine gate_dst (N := 4) rfl ?_); refine box_event ?hg (N := 4) ?hd (cs := #[.slice none 0 0, .slice none 0 0]) (t := 28) ?hr ?_; (case hd => rfl); (case hg => rfl); (case hr => first | (go_simp; done) | (go_simp; rfl)); intro gb561002 hg w6 hbox hb; have n0_ := Aside0.mk (blk_below (g := gb561001) (o := .cells #[.slice A0_0 l0_0.length c0_0, .slice A0_1 l0_1.length c0_1] 28 (0, 0)) (by (with_reducible repeat (first | refine blk_drewN ?_ _ | refine blk_drew ?_ | refine blk_alloc ?_ _)); exact BK561001.out) hb); have n1_ := Aside0.mk (below_step (by repeat (first | (with_reducible first | exact HB.out | apply below_alloc | apply pw_below_drewN | apply below_drew1 | refine below_set ?_ GE561001.out) | exact HB.out)) hb); have n2_ := Aside0.mk (hbox); have n3_ := Aside0.mk ((by rw [hg]; exact (below_size (by repeat (first | (with_reducible first | exact HB.out | apply below_alloc | apply pw_below_drewN | apply below_drew1 | refine below_set ?_ GE561001.out) | exact HB.out))) : w.heap.size ≤ gb561002)); have n4_ := Aside0.mk ((by rw [hg]; exact (below_size (by repeat (first | (with_reducible first | exact HB.out | apply below_alloc | apply pw_below_drewN | apply below_drew1 | refine below_set ?_ GE561001.out) | exact HB.out))) : w.heap.size ≤ gb561002)); have n5_ := Aside0.mk ((by rw [hg]; exact Nat.ne_of_lt (blk_lt (g := gb561001) (o := .cells #[.slice A0_0 l0_0.length c0_0, .slice A0_1 l0_1.length c0_1] 28 (0, 0)) (by (with_reducible repeat (first | refine blk_drewN ?_ _ | refine blk_drew ?_ | refine blk_alloc ?_ _)); exact BK561001.out)) : gb561001 ≠ gb561002)); have n6_ := Aside0.mk ((by rw [hg]; exact Nat.ne_of_gt (blk_lt (g := gb561001) (o := .cells #[.slice A0_0 l0_0.length c0_0, .slice A0_1 l0_1.length c0_1] 28 (0, 0)) (by (with_reducible repeat (first | refine blk_drewN ?_ _ | refine blk_drew ?_ | refine blk_alloc ?_ _)); exact BK561001.out)) : gb561002 ≠ gb561001)); clear BK561001; clear HB; have BK561001 := n0_; have HB := n1_; have BK561002 := n2_; have GW561002 := n3_; have GE561002 := n4_; have NB561001_561002 := n5_; have NB561002_561001 := n6_; clear n0_ n1_ n2_ n3_ n4_ n5_ n6_; clear hb hbox hg; have hnb7 := NB561001_561002.out; have hnc7 := NB561002_561001.out; have hcz8_0 : w6.cell? ⟨gb561001, 0, none⟩ = some (.slice A0_0 l0_0.length c0_0) := (blk_cell BK561001.out 0).trans rfl; have hcz8_1 : w6.cell? ⟨gb561001, 1, none⟩ = some (.slice A0_1 l0_1.length c0_1) := (blk_cell BK561001.out 1).trans rfl; have hfz8_0 := blk_frozen BK561001.out 0; have hfz8_1 := blk_frozen BK561001.out 1) | ((with_reducible refine gate_callee (f := 122) rfl ?_); refine goesL_ (some 13) rfl rfl Try.func122 (by kernel_rfl) rfl #[.agg #[.slice A0_0 l0_0.length c0_0, .slice A0_1 l0_1.length c0_1], .int .i64 a1] rfl (by (try simp only [List.map_toArray, List.map_cons, List.map_nil]); first | done | rfl | (simp only [List.length_drop, List.length_take]; rfl)) ?_; (with_reducible refine (spec_l06Code.calls k _ _ l0_0 _ _ l0_1 a1 t561003 _ ?side1 ?side2 ?side3 ?side4 A3.out).mono ?_); (case side1 => repeat (first | exact (Kd.C_below HR0_0.out HB.out) | (with_reducible refine Kd.C_alloc ?_ _) | (with_reducible refine Kd.C_drewN ?_ _) | (with_reducible refine Kd.C_drew ?_))); (case side2 => exact HC0_0.out); (case side3 => repeat (first | exact (Kd.C_below HR0_1.out HB.out) | (with_reducible refine Kd.C_alloc ?_ _) | (with_reducible refine Kd.C_drewN ?_ _) | (with_reducible refine Kd.C_drew ?_))); (case side4 => exact HC0_1.out); rintro e w9 ⟨rfl, hb⟩; refine ⟨_, rfl, ?_⟩; have n0_ := Aside0.mk (blk_below (g := gb561001) (o := .cells #[.slice A0_0 l0_0.length c0_0, .slice A0_1 l0_1.length c0_1] 28 (0, 0)) (by (with_reducible repeat (first | refine blk_drewN ?_ _ | refine blk_drew ?_ | refine blk_alloc ?_ _)); exact BK561001.out) hb); have n1_ := Aside0.mk (blk_below (g := gb561002) (o := .cells #[.slice none 0 0, .slice none 0 0] 28 (0, 0)) (by (with_reducible repeat (first | refine blk_drewN ?_ _ | refine blk_drew ?_ | refine blk_alloc ?_ _)); exact BK561002.out) hb); have n2_ := Aside0.mk (below_step (by repeat (first | (with_reducible first | exact HB.out | apply below_alloc | apply pw_below_drewN | apply below_drew1 | refine below_set ?_ GE561001.out | refine below_set ?_ GE561002.out) | exact HB.out)) hb); clear BK561001; clear BK561002; clear HB; have BK561001 := n0_; have BK561002 := n1_; have HB := n2_; clear n0_ n1_ n2_; (try clear hb); (try clear hb2); (try clear hk); (try clear hi)))
  go_loopg [7, 8] k (fun kq v7 v8 w' => ∃ (x7_1 : Int) (x8_1 : Bool), v7 = .int .i64 x7_1 ∧ v8 = .bool x8_1 ∧ Aside0 (spec_ForkLegs.l0 kq a1 x7_1 x8_1 l0_0 l0_1 = some (r1, r2, r3)) ∧ Aside0 (kq ≤ k) ∧ Aside0 (w'.heap[gb561001]? = some (.cells #[(.slice A0_0 l0_0.length c0_0), (.slice A0_1 l0_1.length c0_1)] 28 (0, 0))) ∧ Aside0 (w'.heap[gb561002]? = some (.cells #[(.slice none 0 0), (.slice none 0 0)] 28 (0, 0))) ∧ Aside0 (Below w.heap.size w w'))
  case atStart => exact ⟨(0), (true), (by first | rfl | (simp; done) | (simp [*]; done)), (by first | rfl | (simp; done) | (simp [*]; done)), H', ⟨Nat.le_refl _⟩, ⟨by (with_reducible repeat (first | refine blk_drewN ?_ _ | refine blk_drew ?_ | refine blk_alloc ?_ _)); exact BK561001.out⟩, ⟨by (with_reducible repeat (first | refine blk_drewN ?_ _ | refine blk_drew ?_ | refine blk_alloc ?_ _)); exact BK561002.out⟩, ⟨by repeat (first | (with_reducible first | exact HB.out | apply below_alloc | apply pw_below_drewN | apply below_drew1 | refine below_set ?_ GE561001.out | refine below_set ?_ GE561002.out) | exact HB.out)⟩⟩
  case round =>
   clear H'
   try clear c1
   try clear p2
   try clear c4
   try clear c4b0
   try clear c4b1
   try clear c5
   try clear c7
   try clear hcz8_0
   try clear hcz8_1
   try clear hfz8_0
   try clear hfz8_1
   obtain ⟨x7_1, x8_1, rfl, rfl, HA, HK1, BK561001, BK561002, HB⟩ := hrel
   cases gk with
   | zero => exact absurd HA.out (by simp [spec_ForkLegs.l0])
   | succ k1 =>
    have H := HA.out
    clear HA
    simp only [spec_ForkLegs.l0] at H
    by_cases c10 : x8_1 = true
    ·subst c10
     have H1 : ((spec_l06Find.f k1 l0_0 x7_1).bind fun t561036 => (spec_ForkLegs.l1 k1 a1 x7_1 (decide (t561036 ≥ 0)) 0 l0_0 l0_1)) = some (r1, r2, r3) := by rw [if_pos rfl] at H; exact H
     clear H
     have H := H1
     clear H1
     replace H := Option.bind_eq_some_iff.mp H
     obtain ⟨t561036, A110, H⟩ := H
     replace H : (spec_ForkLegs.l1 k1 a1 x7_1 (decide (t561036 ≥ 0)) 0 l0_0 l0_1) = some (r1, r2, r3) := H
     have A11 := Aside0.mk A110
     clear A110
     have H' := Aside0.mk H
     clear H
     have hnb12 := NB561001_561002.out
     have hnc12 := NB561002_561001.out
     have hcz13_0 : wr.cell? ⟨gb561001, 0, none⟩ = some (.slice A0_0 l0_0.length c0_0) := (blk_cell BK561001.out 0).trans rfl
     have hcz13_1 : wr.cell? ⟨gb561001, 1, none⟩ = some (.slice A0_1 l0_1.length c0_1) := (blk_cell BK561001.out 1).trans rfl
     have hfz13_0 := blk_frozen BK561001.out 0
     have hfz13_1 := blk_frozen BK561001.out 1
     go_wp2_with (first | ((with_reducible refine gate_callee (f := 124) rfl ?_); refine goesL_ (some 22) rfl rfl Try.func124 (by kernel_rfl) rfl #[.slice A0_0 l0_0.length c0_0, .int .i64 x7_1] rfl (by (try simp only [List.map_toArray, List.map_cons, List.map_nil]); first | done | rfl | (simp only [List.length_drop, List.length_take]; rfl)) ?_; (with_reducible refine (spec_l06Find.calls k1 _ _ l0_0 x7_1 t561036 _ ?side1 ?side2 A11.out).mono ?_); (case side1 => repeat (first | exact (Kd.C_below HR0_0.out HB.out) | (with_reducible refine Kd.C_alloc ?_ _) | (with_reducible refine Kd.C_drewN ?_ _) | (with_reducible refine Kd.C_drew ?_))); (case side2 => exact HC0_0.out); rintro e w' ⟨rfl, ⟨nd, rfl⟩⟩; refine ⟨_, rfl, ?_⟩))
     go_loopg [8, 9] k1 (fun kq v8 v9 w' => ∃ (x8_2 : Bool) (x9_2 : Int), v8 = .bool x8_2 ∧ v9 = .int .i64 x9_2 ∧ Aside0 (spec_ForkLegs.l1 kq a1 x7_1 x8_2 x9_2 l0_0 l0_1 = some (r1, r2, r3)) ∧ Aside0 (kq ≤ k1) ∧ Aside0 (w'.heap[gb561001]? = some (.cells #[(.slice A0_0 l0_0.length c0_0), (.slice A0_1 l0_1.length c0_1)] 28 (0, 0))) ∧ Aside0 (w'.heap[gb561002]? = some (.cells #[(.slice none 0 0), (.slice none 0 0)] 28 (0, 0))) ∧ Aside0 (Below w.heap.size w w'))
     case atStart => exact ⟨(decide (t561036 ≥ 0)), (0), (by first | rfl | (simp; done) | (simp [*]; done)), (by first | rfl | (simp; done) | (simp [*]; done)), H', ⟨Nat.le_refl _⟩, ⟨by (with_reducible repeat (first | refine blk_drewN ?_ _ | refine blk_drew ?_ | refine blk_alloc ?_ _)); exact BK561001.out⟩, ⟨by (with_reducible repeat (first | refine blk_drewN ?_ _ | refine blk_drew ?_ | refine blk_alloc ?_ _)); exact BK561002.out⟩, ⟨by repeat (first | (with_reducible first | exact HB.out | apply below_alloc | apply pw_below_drewN | apply below_drew1 | refine below_set ?_ GE561001.out | refine below_set ?_ GE561002.out) | exact HB.out)⟩⟩
     case round =>
      clear H'
      try clear c1
      try clear p2
      try clear c4
      try clear c4b0
      try clear c4b1
      try clear c5
      try clear c7
      try clear c10
      try clear c12
      try clear hcz13_0
      try clear hcz13_1
      try clear hcz8_0
      try clear hcz8_1
      try clear hfz13_0
      try clear hfz13_1
      try clear hfz8_0
      try clear hfz8_1
      try clear p2
      obtain ⟨x8_2, x9_2, rfl, rfl, HA, HK2, BK561001, BK561002, HB⟩ := hrel
      cases gk with
      | zero => exact absurd HA.out (by simp [spec_ForkLegs.l1])
      | succ k2 =>
       have H := HA.out
       clear HA
       simp only [spec_ForkLegs.l1] at H
       by_cases c14 : x9_2 < (l0_1.length : Int)
       ·rw [if_pos c14] at H
        have c14b0 : decide (x9_2 < (l0_1.length : Int)) = true := decide_eq_true c14
        clear c14
        by_cases c15 : x8_2 = true
        ·subst c15
         have H1 : (spec_ForkLegs.l1 k2 a1 x7_1 true (wrap64 (x9_2 + 1)) l0_0 l0_1) = some (r1, r2, r3) := by rw [if_pos rfl] at H; exact H
         clear H
         have H := H1
         clear H1
         have H' := Aside0.mk H
         clear H
         have hnb16 := NB561001_561002.out
         have hnc16 := NB561002_561001.out
         have hcz17_0 : wr.cell? ⟨gb561001, 0, none⟩ = some (.slice A0_0 l0_0.length c0_0) := (blk_cell BK561001.out 0).trans rfl
         have hcz17_1 : wr.cell? ⟨gb561001, 1, none⟩ = some (.slice A0_1 l0_1.length c0_1) := (blk_cell BK561001.out 1).trans rfl
         have hfz17_0 := blk_frozen BK561001.out 0
         have hfz17_1 := blk_frozen BK561001.out 1
         go_wp2
         go_roundg k2
         case measure => have := HK1.out; have := HK2.out; omega
         case rel => exact ⟨(true), (wrap64 (x9_2 + 1)), (by first | rfl | (simp; done) | (simp [*]; done)), (by first | rfl | (simp; done) | (simp [*]; done)), H', ⟨by have := HK1.out; have := HK2.out; omega⟩, ⟨by (with_reducible repeat (first | refine blk_drewN ?_ _ | refine blk_drew ?_ | refine blk_alloc ?_ _)); exact BK561001.out⟩, ⟨by (with_reducible repeat (first | refine blk_drewN ?_ _ | refine blk_drew ?_ | refine blk_alloc ?_ _)); exact BK561002.out⟩, ⟨by repeat (first | (with_reducible first | exact HB.out | apply below_alloc | apply pw_below_drewN | apply below_drew1 | refine below_set ?_ GE561001.out | refine below_set ?_ GE561002.out) | exact HB.out)⟩⟩
        ·replace c15 := Bool.eq_false_iff.mpr c15
         subst c15
         have H1 : (if 0 ≤ x9_2 then ((spec_l06Find.f k2 (rd_L1 l0_1 x9_2) x7_1).bind fun t561038 => (spec_ForkLegs.l1 k2 a1 x7_1 (decide (t561038 ≥ 0)) (wrap64 (x9_2 + 1)) l0_0 l0_1)) else (none)) = some (r1, r2, r3) := by rw [if_neg (show ¬ (false = true) by decide)] at H; exact H
         clear H
         have H := H1
         clear H1
         by_cases c18 : 0 ≤ x9_2
         ·rw [if_pos c18] at H
          have c18b0 : decide (0 ≤ x9_2) = true := decide_eq_true c18
          clear c18
          replace H := Option.bind_eq_some_iff.mp H
          obtain ⟨t561038, A190, H⟩ := H
          replace H : (spec_ForkLegs.l1 k2 a1 x7_1 (decide (t561038 ≥ 0)) (wrap64 (x9_2 + 1)) l0_0 l0_1) = some (r1, r2, r3) := H
          have A19 := Aside0.mk A190
          clear A190
          have H' := Aside0.mk H
          clear H
          have hnb20 := NB561001_561002.out
          have hnc20 := NB561002_561001.out
          have hcz21_0 : wr.cell? ⟨gb561001, 0, none⟩ = some (.slice A0_0 l0_0.length c0_0) := (blk_cell BK561001.out 0).trans rfl
          have hcz21_1 : wr.cell? ⟨gb561001, 1, none⟩ = some (.slice A0_1 l0_1.length c0_1) := (blk_cell BK561001.out 1).trans rfl
          have hfz21_0 := blk_frozen BK561001.out 0
          have hfz21_1 := blk_frozen BK561001.out 1
          have p561037 : 0 ≤ (x9_2 : Int) := of_decide_eq_true (by first | (with_reducible assumption) | assumption)
          have q561037 : x9_2 < (l0_1.length : Int) := of_decide_eq_true (by first | (with_reducible assumption) | assumption)
          obtain ⟨ad561037, A561037_0, c561037_0, e561037, hx561037_0, hl561037_0, hi561037_0⟩ := at_L1 HR0_1.out x9_2 p561037 q561037
          cases e561037
          replace hx561037_0 := (HB.out.cell (World.block_lt_of_cell? w _ hx561037_0)).trans hx561037_0
          have HR561037_0 := Aside0.mk hi561037_0
          have HC561037_0 := Aside0.mk hl561037_0
          clear hi561037_0 hl561037_0
          replace p561037 := eq_true p561037
          replace q561037 := eq_true q561037
          go_wp2_with (first | (go_at_call 124; (with_reducible refine (spec_l06Find.calls k2 _ _ (rd_L1 l0_1 x9_2) x7_1 t561038 _ ?side1 ?side2 A19.out).mono ?_); (case side1 => repeat (first | exact (Kd.C_below HR561037_0.out HB.out) | (with_reducible refine Kd.C_alloc ?_ _) | (with_reducible refine Kd.C_drewN ?_ _) | (with_reducible refine Kd.C_drew ?_))); (case side2 => exact HC561037_0.out); rintro e w' ⟨rfl, ⟨nd, rfl⟩⟩))
          go_roundg k2
          case measure => have := HK1.out; have := HK2.out; omega
          case rel => exact ⟨(decide (t561038 ≥ 0)), (wrap64 (x9_2 + 1)), (by first | rfl | (simp; done) | (simp [*]; done)), (by first | rfl | (simp; done) | (simp [*]; done)), H', ⟨by have := HK1.out; have := HK2.out; omega⟩, ⟨by (with_reducible repeat (first | refine blk_drewN ?_ _ | refine blk_drew ?_ | refine blk_alloc ?_ _)); exact BK561001.out⟩, ⟨by (with_reducible repeat (first | refine blk_drewN ?_ _ | refine blk_drew ?_ | refine blk_alloc ?_ _)); exact BK561002.out⟩, ⟨by repeat (first | (with_reducible first | exact HB.out | apply below_alloc | apply pw_below_drewN | apply below_drew1 | refine below_set ?_ GE561001.out | refine below_set ?_ GE561002.out) | exact HB.out)⟩⟩
         ·rw [if_neg c18] at H
          exact absurd H (by simp)
       ·rw [if_neg c14] at H
        have c14b0 : decide (x9_2 < (l0_1.length : Int)) = false := decide_eq_false c14
        clear c14
        by_cases c22 : x8_2 = true
        ·subst c22
         have H1 : (spec_ForkLegs.l0 k2 a1 (wrap64 (x7_1 + 1)) true l0_0 l0_1) = some (r1, r2, r3) := by rw [if_pos rfl] at H; exact H
         clear H
         have H := H1
         clear H1
         have H' := Aside0.mk H
         clear H
         have hnb23 := NB561001_561002.out
         have hnc23 := NB561002_561001.out
         have hcz24_0 : wr.cell? ⟨gb561001, 0, none⟩ = some (.slice A0_0 l0_0.length c0_0) := (blk_cell BK561001.out 0).trans rfl
         have hcz24_1 : wr.cell? ⟨gb561001, 1, none⟩ = some (.slice A0_1 l0_1.length c0_1) := (blk_cell BK561001.out 1).trans rfl
         have hfz24_0 := blk_frozen BK561001.out 0
         have hfz24_1 := blk_frozen BK561001.out 1
         go_wp2
         go_roundg k2
         case measure => have := HK1.out; have := HK2.out; omega
         case rel => exact ⟨(wrap64 (x7_1 + 1)), (true), (by first | rfl | (simp; done) | (simp [*]; done)), (by first | rfl | (simp; done) | (simp [*]; done)), H', ⟨by have := HK1.out; have := HK2.out; omega⟩, ⟨by (with_reducible repeat (first | refine blk_drewN ?_ _ | refine blk_drew ?_ | refine blk_alloc ?_ _)); exact BK561001.out⟩, ⟨by (with_reducible repeat (first | refine blk_drewN ?_ _ | refine blk_drew ?_ | refine blk_alloc ?_ _)); exact BK561002.out⟩, ⟨by repeat (first | (with_reducible first | exact HB.out | apply below_alloc | apply pw_below_drewN | apply below_drew1 | refine below_set ?_ GE561001.out | refine below_set ?_ GE561002.out) | exact HB.out)⟩⟩
        ·replace c22 := Bool.eq_false_iff.mpr c22
         subst c22
         have H1 : (spec_ForkLegs.l0 k2 a1 x7_1 false l0_0 l0_1) = some (r1, r2, r3) := by rw [if_neg (show ¬ (false = true) by decide)] at H; exact H
         clear H
         have H := H1
         clear H1
         have H' := Aside0.mk H
         clear H
         have hnb25 := NB561001_561002.out
         have hnc25 := NB561002_561001.out
         have hcz26_0 : wr.cell? ⟨gb561001, 0, none⟩ = some (.slice A0_0 l0_0.length c0_0) := (blk_cell BK561001.out 0).trans rfl
         have hcz26_1 : wr.cell? ⟨gb561001, 1, none⟩ = some (.slice A0_1 l0_1.length c0_1) := (blk_cell BK561001.out 1).trans rfl
         have hfz26_0 := blk_frozen BK561001.out 0
         have hfz26_1 := blk_frozen BK561001.out 1
         go_wp2
         go_roundg k2
         case measure => have := HK1.out; have := HK2.out; omega
         case rel => exact ⟨(x7_1), (false), (by first | rfl | (simp; done) | (simp [*]; done)), (by first | rfl | (simp; done) | (simp [*]; done)), H', ⟨by have := HK1.out; have := HK2.out; omega⟩, ⟨by (with_reducible repeat (first | refine blk_drewN ?_ _ | refine blk_drew ?_ | refine blk_alloc ?_ _)); exact BK561001.out⟩, ⟨by (with_reducible repeat (first | refine blk_drewN ?_ _ | refine blk_drew ?_ | refine blk_alloc ?_ _)); exact BK561002.out⟩, ⟨by repeat (first | (with_reducible first | exact HB.out | apply below_alloc | apply pw_below_drewN | apply below_drew1 | refine below_set ?_ GE561001.out | refine below_set ?_ GE561002.out) | exact HB.out)⟩⟩
    ·replace c10 := Bool.eq_false_iff.mpr c10
     subst c10
     have H1 : ((spec_l06Copy.f k1 l0_0 l0_1).bind fun bt561004 => (if 0 ≤ a1 then (if a1 < (l0_0.length : Int) then (if 0 ≤ (wrap64 (a1 + 1)) then (if (wrap64 (a1 + 1)) < (l0_0.length : Int) then ((some (([(([x7_1, rd l0_0 a1, rd l0_0 (wrap64 (a1 + 1))] : List Int))] : List (List Int)) : List (List Int))).bind fun y561016 => (if bt561004.2.length + y561016.length < 5864062014805 then (if a1 ≤ (l0_0.length : Int) then ((spec_l01Own.f (l0_0.take (a1 : Int).toNat)).bind fun t561023 => ((some (([x7_1] : List Int) : List Int)).bind fun y561026 => (if t561023.length + y561026.length < 17592186044416 then ((some (t561023 ++ y561026 : List Int)).bind fun y561029 => (if 0 ≤ (wrap64 (a1 + 2)) then (if (wrap64 (a1 + 2)) ≤ (l0_0.length : Int) then (if y561029.length + (l0_0.drop ((wrap64 (a1 + 2)) : Int).toNat).length < 17592186044416 then (some ((y561029 ++ (l0_0.drop ((wrap64 (a1 + 2)) : Int).toNat)), (bt561004.2 ++ y561016), 0)) else (none)) else (none)) else (none))) else (none)))) else (none)) else (none))) else (none)) else (none)) else (none)) else (none))) = some (r1, r2, r3) := by rw [if_neg (show ¬ (false = true) by decide)] at H; exact H
     clear H
     have H := H1
     clear H1
     replace H := Option.bind_eq_some_iff.mp H
     obtain ⟨⟨t561004, t561007⟩, A270, H⟩ := H
     replace H : (if 0 ≤ a1 then (if a1 < (l0_0.length : Int) then (if 0 ≤ (wrap64 (a1 + 1)) then (if (wrap64 (a1 + 1)) < (l0_0.length : Int) then ((some (([(([x7_1, rd l0_0 a1, rd l0_0 (wrap64 (a1 + 1))] : List Int))] : List (List Int)) : List (List Int))).bind fun y561016 => (if t561007.length + y561016.length < 5864062014805 then (if a1 ≤ (l0_0.length : Int) then ((spec_l01Own.f (l0_0.take (a1 : Int).toNat)).bind fun t561023 => ((some (([x7_1] : List Int) : List Int)).bind fun y561026 => (if t561023.length + y561026.length < 17592186044416 then ((some (t561023 ++ y561026 : List Int)).bind fun y561029 => (if 0 ≤ (wrap64 (a1 + 2)) then (if (wrap64 (a1 + 2)) ≤ (l0_0.length : Int) then (if y561029.length + (l0_0.drop ((wrap64 (a1 + 2)) : Int).toNat).length < 17592186044416 then (some ((y561029 ++ (l0_0.drop ((wrap64 (a1 + 2)) : Int).toNat)), (t561007 ++ y561016), 0)) else (none)) else (none)) else (none))) else (none)))) else (none)) else (none))) else (none)) else (none)) else (none)) else (none)) = some (r1, r2, r3) := H
     have A27 := Aside0.mk A270
     clear A270
     by_cases c28 : 0 ≤ a1
     ·rw [if_pos c28] at H
      have c28b0 : decide (0 ≤ a1) = true := decide_eq_true c28
      clear c28
      by_cases c29 : a1 < (l0_0.length : Int)
      ·rw [if_pos c29] at H
       have c29b0 : decide (a1 < (l0_0.length : Int)) = true := decide_eq_true c29
       clear c29
       obtain ⟨ji30, hji30⟩ : ∃ j_ : Int, (wrap64 (a1 + 1)) = j_ := ⟨_, rfl⟩
       replace H : (if 0 ≤ (ji30) then (if (ji30) < (l0_0.length : Int) then ((some (([(([x7_1, rd l0_0 a1, rd l0_0 (ji30)] : List Int))] : List (List Int)) : List (List Int))).bind fun y561016 => (if t561007.length + y561016.length < 5864062014805 then (if a1 ≤ (l0_0.length : Int) then ((spec_l01Own.f (l0_0.take (a1 : Int).toNat)).bind fun t561023 => ((some (([x7_1] : List Int) : List Int)).bind fun y561026 => (if t561023.length + y561026.length < 17592186044416 then ((some (t561023 ++ y561026 : List Int)).bind fun y561029 => (if 0 ≤ (wrap64 (a1 + 2)) then (if (wrap64 (a1 + 2)) ≤ (l0_0.length : Int) then (if y561029.length + (l0_0.drop ((wrap64 (a1 + 2)) : Int).toNat).length < 17592186044416 then (some ((y561029 ++ (l0_0.drop ((wrap64 (a1 + 2)) : Int).toNat)), (t561007 ++ y561016), 0)) else (none)) else (none)) else (none))) else (none)))) else (none)) else (none))) else (none)) else (none)) = some (r1, r2, r3) := by first | (rw [hji30] at H; exact H) | (simp only [hji30] at H ⊢; exact H)
       (try rw [hji30] at A27)
       have hji30w : (IntKind.i64.wrap (a1 + 1)) = ji30 := (i64_w _).trans hji30
       by_cases c31 : 0 ≤ (ji30)
       ·rw [if_pos c31] at H
        have c31b0 : decide (0 ≤ (ji30)) = true := decide_eq_true c31
        clear c31
        by_cases c32 : (ji30) < (l0_0.length : Int)
        ·rw [if_pos c32] at H
         have c32b0 : decide ((ji30) < (l0_0.length : Int)) = true := decide_eq_true c32
         clear c32
         obtain ⟨y561013, hy561013⟩ : ∃ y_ : List Int, y_ = (([x7_1, rd l0_0 a1, rd l0_0 (ji30)] : List Int)) := ⟨_, rfl⟩
         replace H : ((some (([y561013] : List (List Int)) : List (List Int))).bind fun y561016 => (if t561007.length + y561016.length < 5864062014805 then (if a1 ≤ (l0_0.length : Int) then ((spec_l01Own.f (l0_0.take (a1 : Int).toNat)).bind fun t561023 => ((some (([x7_1] : List Int) : List Int)).bind fun y561026 => (if t561023.length + y561026.length < 17592186044416 then ((some (t561023 ++ y561026 : List Int)).bind fun y561029 => (if 0 ≤ (wrap64 (a1 + 2)) then (if (wrap64 (a1 + 2)) ≤ (l0_0.length : Int) then (if y561029.length + (l0_0.drop ((wrap64 (a1 + 2)) : Int).toNat).length < 17592186044416 then (some ((y561029 ++ (l0_0.drop ((wrap64 (a1 + 2)) : Int).toNat)), (t561007 ++ y561016), 0)) else (none)) else (none)) else (none))) else (none)))) else (none)) else (none))) = some (r1, r2, r3) := by first | (rw [hy561013]; with_reducible exact H) | (have H2_ := (Option.bind_some _ _).symm.trans H; rw [hy561013]; with_reducible exact H2_) | (have H2_ := (Option.bind_some _ _).symm.trans H; with_reducible exact H2_) | with_reducible exact H | (rw [hy561013]; exact H) | exact H
         have Ny561013 := Aside0.mk hy561013
         clear hy561013
         obtain ⟨y561016, hy561016⟩ : ∃ y_ : List (List Int), y_ = (([y561013] : List (List Int))) := ⟨_, rfl⟩
         replace H : (if t561007.length + y561016.length < 5864062014805 then (if a1 ≤ (l0_0.length : Int) then ((spec_l01Own.f (l0_0.take (a1 : Int).toNat)).bind fun t561023 => ((some (([x7_1] : List Int) : List Int)).bind fun y561026 => (if t561023.length + y561026.length < 17592186044416 then ((some (t561023 ++ y561026 : List Int)).bind fun y561029 => (if 0 ≤ (wrap64 (a1 + 2)) then (if (wrap64 (a1 + 2)) ≤ (l0_0.length : Int) then (if y561029.length + (l0_0.drop ((wrap64 (a1 + 2)) : Int).toNat).length < 17592186044416 then (some ((y561029 ++ (l0_0.drop ((wrap64 (a1 + 2)) : Int).toNat)), (t561007 ++ y561016), 0)) else (none)) else (none)) else (none))) else (none)))) else (none)) else (none)) = some (r1, r2, r3) := by first | (rw [hy561016]; with_reducible exact H) | (have H2_ := (Option.bind_some _ _).symm.trans H; rw [hy561016]; with_reducible exact H2_) | (have H2_ := (Option.bind_some _ _).symm.trans H; with_reducible exact H2_) | with_reducible exact H | (rw [hy561016]; exact H) | exact H
         have Ny561016 := Aside0.mk hy561016
         clear hy561016
         by_cases c33 : t561007.length + y561016.length < 5864062014805
         ·rw [if_pos c33] at H
          have LMc33 := Aside0.mk c33
          clear c33
          obtain ⟨y561019, hy561019⟩ : ∃ y_ : List (List Int), y_ = (t561007 ++ y561016) := ⟨_, rfl⟩
          replace H : (if a1 ≤ (l0_0.length : Int) then ((spec_l01Own.f (l0_0.take (a1 : Int).toNat)).bind fun t561023 => ((some (([x7_1] : List Int) : List Int)).bind fun y561026 => (if t561023.length + y561026.length < 17592186044416 then ((some (t561023 ++ y561026 : List Int)).bind fun y561029 => (if 0 ≤ (wrap64 (a1 + 2)) then (if (wrap64 (a1 + 2)) ≤ (l0_0.length : Int) then (if y561029.length + (l0_0.drop ((wrap64 (a1 + 2)) : Int).toNat).length < 17592186044416 then (some ((y561029 ++ (l0_0.drop ((wrap64 (a1 + 2)) : Int).toNat)), y561019, 0)) else (none)) else (none)) else (none))) else (none)))) else (none)) = some (r1, r2, r3) := by first | (rw [hy561019]; with_reducible exact H) | (have H2_ := (Option.bind_some _ _).symm.trans H; rw [hy561019]; with_reducible exact H2_) | (have H2_ := (Option.bind_some _ _).symm.trans H; with_reducible exact H2_) | with_reducible exact H | (rw [hy561019]; exact H) | exact H
          have Ny561019 := Aside0.mk hy561019
          clear hy561019
          have c34b0 := eq_true (of_decide_eq_true (by first | (with_reducible assumption) | assumption) : 0 ≤ a1)
          by_cases c35 : a1 ≤ (l0_0.length : Int)
          ·rw [if_pos c35] at H
           have c35b0 := eq_true c35
           have c35b1 : decide (a1 ≤ (l0_0.length : Int)) = true := decide_eq_true c35
           clear c35
           replace H := Option.bind_eq_some_iff.mp H
           obtain ⟨t561023, A360, H⟩ := H
           replace H : ((some (([x7_1] : List Int) : List Int)).bind fun y561026 => (if t561023.length + y561026.length < 17592186044416 then ((some (t561023 ++ y561026 : List Int)).bind fun y561029 => (if 0 ≤ (wrap64 (a1 + 2)) then (if (wrap64 (a1 + 2)) ≤ (l0_0.length : Int) then (if y561029.length + (l0_0.drop ((wrap64 (a1 + 2)) : Int).toNat).length < 17592186044416 then (some ((y561029 ++ (l0_0.drop ((wrap64 (a1 + 2)) : Int).toNat)), y561019, 0)) else (none)) else (none)) else (none))) else (none))) = some (r1, r2, r3) := H
           have A36 := Aside0.mk A360
           clear A360
           obtain ⟨y561026, hy561026⟩ : ∃ y_ : List Int, y_ = (([x7_1] : List Int)) := ⟨_, rfl⟩
           replace H : (if t561023.length + y561026.length < 17592186044416 then ((some (t561023 ++ y561026 : List Int)).bind fun y561029 => (if 0 ≤ (wrap64 (a1 + 2)) then (if (wrap64 (a1 + 2)) ≤ (l0_0.length : Int) then (if y561029.length + (l0_0.drop ((wrap64 (a1 + 2)) : Int).toNat).length < 17592186044416 then (some ((y561029 ++ (l0_0.drop ((wrap64 (a1 + 2)) : Int).toNat)), y561019, 0)) else (none)) else (none)) else (none))) else (none)) = some (r1, r2, r3) := by first | (rw [hy561026]; with_reducible exact H) | (have H2_ := (Option.bind_some _ _).symm.trans H; rw [hy561026]; with_reducible exact H2_) | (have H2_ := (Option.bind_some _ _).symm.trans H; with_reducible exact H2_) | with_reducible exact H | (rw [hy561026]; exact H) | exact H
           have Ny561026 := Aside0.mk hy561026
           clear hy561026
           by_cases c37 : t561023.length + y561026.length < 17592186044416
           ·rw [if_pos c37] at H
            have LMc37 := Aside0.mk c37
            clear c37
            obtain ⟨y561029, hy561029⟩ : ∃ y_ : List Int, y_ = (t561023 ++ y561026) := ⟨_, rfl⟩
            replace H : (if 0 ≤ (wrap64 (a1 + 2)) then (if (wrap64 (a1 + 2)) ≤ (l0_0.length : Int) then (if y561029.length + (l0_0.drop ((wrap64 (a1 + 2)) : Int).toNat).length < 17592186044416 then (some ((y561029 ++ (l0_0.drop ((wrap64 (a1 + 2)) : Int).toNat)), y561019, 0)) else (none)) else (none)) else (none)) = some (r1, r2, r3) := by first | (rw [hy561029]; with_reducible exact H) | (have H2_ := (Option.bind_some _ _).symm.trans H; rw [hy561029]; with_reducible exact H2_) | (have H2_ := (Option.bind_some _ _).symm.trans H; with_reducible exact H2_) | with_reducible exact H | (rw [hy561029]; exact H) | exact H
            have Ny561029 := Aside0.mk hy561029
            clear hy561029
            obtain ⟨ji38, hji38⟩ : ∃ j_ : Int, (wrap64 (a1 + 2)) = j_ := ⟨_, rfl⟩
            replace H : (if 0 ≤ (ji38) then (if (ji38) ≤ (l0_0.length : Int) then (if y561029.length + (l0_0.drop ((ji38) : Int).toNat).length < 17592186044416 then (some ((y561029 ++ (l0_0.drop ((ji38) : Int).toNat)), y561019, 0)) else (none)) else (none)) else (none)) = some (r1, r2, r3) := by first | (rw [hji38] at H; exact H) | (simp only [hji38] at H ⊢; exact H)
            (try rw [hji38] at A27)
            (try rw [hji38] at A36)
            have hji38w : (IntKind.i64.wrap (a1 + 2)) = ji38 := (i64_w _).trans hji38
            by_cases c39 : 0 ≤ (ji38)
            ·rw [if_pos c39] at H
             have c39b0 := eq_true c39
             have c39b1 : decide (0 ≤ (ji38)) = true := decide_eq_true c39
             clear c39
             by_cases c40 : (ji38) ≤ (l0_0.length : Int)
             ·rw [if_pos c40] at H
              have c40b0 := eq_true c40
              have c40b1 : decide ((ji38) ≤ (l0_0.length : Int)) = true := decide_eq_true c40
              clear c40
              by_cases c41 : y561029.length + (l0_0.drop ((ji38) : Int).toNat).length < 17592186044416
              ·rw [if_pos c41] at H
               have LMc41 := Aside0.mk c41
               clear c41
               obtain ⟨y561033, hy561033⟩ : ∃ y_ : List Int, y_ = (y561029 ++ (l0_0.drop ((ji38) : Int).toNat)) := ⟨_, rfl⟩
               replace H : (some (y561033, y561019, 0)) = some (r1, r2, r3) := by first | (rw [hy561033]; with_reducible exact H) | (have H2_ := (Option.bind_some _ _).symm.trans H; rw [hy561033]; with_reducible exact H2_) | (have H2_ := (Option.bind_some _ _).symm.trans H; with_reducible exact H2_) | with_reducible exact H | (rw [hy561033]; exact H) | exact H
               have Ny561033 := Aside0.mk hy561033
               clear hy561033
               simp only [Option.some.injEq, Prod.mk.injEq] at H
               obtain ⟨rfl, rfl, rfl⟩ := H
               have hnb42 := NB561001_561002.out
               have hnc42 := NB561002_561001.out
               have hcz43_0 : wr.cell? ⟨gb561001, 0, none⟩ = some (.slice A0_0 l0_0.length c0_0) := (blk_cell BK561001.out 0).trans rfl
               have hcz43_1 : wr.cell? ⟨gb561001, 1, none⟩ = some (.slice A0_1 l0_1.length c0_1) := (blk_cell BK561001.out 1).trans rfl
               have hfz43_0 := blk_frozen BK561001.out 0
               have hfz43_1 := blk_frozen BK561001.out 1
               try go_wp2_with (first | ((with_reducible refine gate_callee (f := 110) rfl ?_); refine goesL_ (some 46) rfl rfl Try.func110 (by kernel_rfl) rfl #[.agg #[.slice A0_0 l0_0.length c0_0, .slice A0_1 l0_1.length c0_1]] rfl (by (try simp only [List.map_toArray, List.map_cons, List.map_nil]); first | done | rfl | (simp only [List.length_drop, List.length_take]; rfl)) ?_; (with_reducible refine (spec_l06Copy.calls k1 _ _ l0_0 _ _ l0_1 t561004 t561007 _ ?side1 ?side2 ?side3 ?side4 A27.out).mono ?_); (case side1 => repeat (first | exact (Kd.C_below HR0_0.out HB.out) | (with_reducible refine Kd.C_alloc ?_ _) | (with_reducible refine Kd.C_drewN ?_ _) | (with_reducible refine Kd.C_drew ?_))); (case side2 => exact HC0_0.out); (case side3 => repeat (first | exact (Kd.C_below HR0_1.out HB.out) | (with_reducible refine Kd.C_alloc ?_ _) | (with_reducible refine Kd.C_drewN ?_ _) | (with_reducible refine Kd.C_drew ?_))); (case side4 => exact HC0_1.out); rintro e w44 ⟨v561005, v561008, rfl, ho0, ho1, hb⟩; refine ⟨_, rfl, ?_⟩; have n0_ := Aside0.mk (Kd.R_lower (Kd.R_newM (M := fun k_ => (w.heap.size ≤ k_)) ho0 (below_size (by repeat (first | (with_reducible first | exact HB.out | apply below_alloc | apply pw_below_drewN | apply below_drew1 | refine below_set ?_ GE561001.out | refine below_set ?_ GE561002.out) | exact HB.out))) (fun k_ h_ => h_)) (below_size (by repeat (first | (with_reducible first | exact HB.out | apply below_alloc | apply pw_below_drewN | apply below_drew1 | refine below_set ?_ GE561001.out | refine below_set ?_ GE561002.out) | exact HB.out)))); have n1_ := Aside0.mk (Kd.N_lower (Kd.N_mono (ok' := fun k_ => (w.heap.size ≤ k_) ∧ some k_ ≠ (v561005 : Value).ownBlock ∧ k_ ≠ gb561001 ∧ k_ ≠ gb561002) (Kd.S_N (Kd.S_bound ho1)) (fun k_ hk_ => ⟨(Nat.le_trans (below_size (by repeat (first | (with_reducible first | exact HB.out | apply below_alloc | apply pw_below_drewN | apply below_drew1 | refine below_set ?_ GE561001.out | refine below_set ?_ GE561002.out) | exact HB.out))) hk_.2.1), hk_.1, (Kd.freshB (g := gb561001) (o := .cells #[.slice A0_0 l0_0.length c0_0, .slice A0_1 l0_1.length c0_1] 28 (0, 0)) (by (with_reducible repeat (first | refine blk_drewN ?_ _ | refine blk_drew ?_ | refine blk_alloc ?_ _)); exact BK561001.out) k_ hk_.2.1), (Kd.freshB (g := gb561002) (o := .cells #[.slice none 0 0, .slice none 0 0] 28 (0, 0)) (by (with_reducible repeat (first | refine blk_drewN ?_ _ | refine blk_drew ?_ | refine blk_alloc ?_ _)); exact BK561002.out) k_ hk_.2.1)⟩)) (below_size (by repeat (first | (with_reducible first | exact HB.out | apply below_alloc | apply pw_below_drewN | apply below_drew1 | refine below_set ?_ GE561001.out | refine below_set ?_ GE561002.out) | exact HB.out)))); have n2_ := Aside0.mk (blk_below (g := gb561001) (o := .cells #[.slice A0_0 l0_0.length c0_0, .slice A0_1 l0_1.length c0_1] 28 (0, 0)) (by (with_reducible repeat (first | refine blk_drewN ?_ _ | refine blk_drew ?_ | refine blk_alloc ?_ _)); exact BK561001.out) hb); have n3_ := Aside0.mk (blk_below (g := gb561002) (o := .cells #[.slice none 0 0, .slice none 0 0] 28 (0, 0)) (by (with_reducible repeat (first | refine blk_drewN ?_ _ | refine blk_drew ?_ | refine blk_alloc ?_ _)); exact BK561002.out) hb); have n4_ := Aside0.mk (below_step (by repeat (first | (with_reducible first | exact HB.out | apply below_alloc | apply pw_below_drewN | apply below_drew1 | refine below_set ?_ GE561001.out | refine below_set ?_ GE561002.out) | exact HB.out)) hb); clear BK561001; clear BK561002; clear HB; have HO561006 := n0_; have HO561009 := n1_; have BK561001 := n2_; have BK561002 := n3_; have HB := n4_; clear n0_ n1_ n2_ n3_ n4_; (try clear hb); (try clear hb2); (try clear hk); (try clear hi); (try clear ho0); (try clear ho1)) | ((with_reducible refine gate_dst (N := 10) rfl ?_); refine box_event ?hg (N := 10) ?hd (cs := #[.slice none 0 0, .slice none 0 0]) (t := 28) ?hr ?_; (case hd => rfl); (case hg => rfl); (case hr => first | (go_simp; done) | (go_simp; rfl)); intro gb561010 hg w45 hbox hb; have n0_ := Aside0.mk (Kd.R_below (by (with_reducible repeat (first | apply Kd.R_alloc | apply Kd.R_drewN | apply Kd.R_drew)); exact HO561006.out) hb); have n1_ := Aside0.mk (Kd.N_below (Kd.N_elderB (by (with_reducible repeat (first | apply Kd.N_alloc | apply Kd.N_drewN | apply Kd.N_drew)); exact HO561009.out) gb561010 (Nat.le_of_eq hg.symm)) hb); have n2_ := Aside0.mk (blk_below (g := gb561001) (o := .cells #[.slice A0_0 l0_0.length c0_0, .slice A0_1 l0_1.length c0_1] 28 (0, 0)) (by (with_reducible repeat (first | refine blk_drewN ?_ _ | refine blk_drew ?_ | refine blk_alloc ?_ _)); exact BK561001.out) hb); have n3_ := Aside0.mk (blk_below (g := gb561002) (o := .cells #[.slice none 0 0, .slice none 0 0] 28 (0, 0)) (by (with_reducible repeat (first | refine blk_drewN ?_ _ | refine blk_drew ?_ | refine blk_alloc ?_ _)); exact BK561002.out) hb); have n4_ := Aside0.mk (below_step (by repeat (first | (with_reducible first | exact HB.out | apply below_alloc | apply pw_below_drewN | apply below_drew1 | refine below_set ?_ GE561001.out | refine below_set ?_ GE561002.out) | exact HB.out)) hb); have n5_ := Aside0.mk (hbox); have n6_ := Aside0.mk ((by rw [hg]; exact (below_size (by repeat (first | (with_reducible first | exact HB.out | apply below_alloc | apply pw_below_drewN | apply below_drew1 | refine below_set ?_ GE561001.out | refine below_set ?_ GE561002.out) | exact HB.out))) : w.heap.size ≤ gb561010)); have n7_ := Aside0.mk ((by rw [hg]; exact (below_size (by repeat (first | (with_reducible first | exact HB.out | apply below_alloc | apply pw_below_drewN | apply below_drew1 | refine below_set ?_ GE561001.out | refine below_set ?_ GE561002.out) | exact HB.out))) : w.heap.size ≤ gb561010)); have n8_ := Aside0.mk ((by rw [hg]; exact Nat.ne_of_lt (blk_lt (g := gb561001) (o := .cells #[.slice A0_0 l0_0.length c0_0, .slice A0_1 l0_1.length c0_1] 28 (0, 0)) (by (with_reducible repeat (first | refine blk_drewN ?_ _ | refine blk_drew ?_ | refine blk_alloc ?_ _)); exact BK561001.out)) : gb561001 ≠ gb561010)); have n9_ := Aside0.mk ((by rw [hg]; exact Nat.ne_of_gt (blk_lt (g := gb561001) (o := .cells #[.slice A0_0 l0_0.length c0_0, .slice A0_1 l0_1.length c0_1] 28 (0, 0)) (by (with_reducible repeat (first | refine blk_drewN ?_ _ | refine blk_drew ?_ | refine blk_alloc ?_ _)); exact BK561001.out)) : gb561010 ≠ gb561001)); have n10_ := Aside0.mk ((by rw [hg]; exact Nat.ne_of_lt (blk_lt (g := gb561002) (o := .cells #[.slice none 0 0, .slice none 0 0] 28 (0, 0)) (by (with_reducible repeat (first | refine blk_drewN ?_ _ | refine blk_drew ?_ | refine blk_alloc ?_ _)); exact BK561002.out)) : gb561002 ≠ gb561010)); have n11_ := Aside0.mk ((by rw [hg]; exact Nat.ne_of_gt (blk_lt (g := gb561002) (o := .cells #[.slice none 0 0, .slice none 0 0] 28 (0, 0)) (by (with_reducible repeat (first | refine blk_drewN ?_ _ | refine blk_drew ?_ | refine blk_alloc ?_ _)); exact BK561002.out)) : gb561010 ≠ gb561002)); clear HO561006; clear HO561009; clear BK561001; clear BK561002; clear HB; have HO561006 := n0_; have HO561009 := n1_; have BK561001 := n2_; have BK561002 := n3_; have HB := n4_; have BK561010 := n5_; have GW561010 := n6_; have GE561010 := n7_; have NB561001_561010 := n8_; have NB561010_561001 := n9_; have NB561002_561010 := n10_; have NB561010_561002 := n11_; clear n0_ n1_ n2_ n3_ n4_ n5_ n6_ n7_ n8_ n9_ n10_ n11_; clear hb hbox hg; obtain ⟨Ao46, co46, eo46⟩ := Kd.R_slice HO561006.out; subst eo46; have hnb47 := NB561010_561001.out; have hnc47 := NB561001_561010.out; have hnb48 := NB561010_561002.out; have hnc48 := NB561002_561010.out; have hcz49_0 : w45.cell? ⟨gb561010, 0, none⟩ = some (.slice none 0 0) := (blk_cell BK561010.out 0).trans rfl; have hcz49_1 : w45.cell? ⟨gb561010, 1, none⟩ = some (.slice none 0 0) := (blk_cell BK561010.out 1).trans rfl; have hfz49_0 := blk_frozen BK561010.out 0; have hfz49_1 := blk_frozen BK561010.out 1; obtain ⟨Ao50, co50, eo50⟩ := Kd.N_slice HO561009.out; subst eo50))
               have n0_ : Aside0 (Kd.R (Kd.int .i64) 2 ((w45.setCell ⟨gb561010, 0, none⟩ (.slice Ao46 t561004.length co46)).setCell ⟨gb561010, 1, none⟩ (.slice Ao50 t561007.length co50)) w.heap.size (fun k_ => (w.heap.size ≤ k_)) (.slice Ao46 t561004.length co46) t561004) := ⟨by (with_reducible repeat (first | apply Kd.R_alloc | apply Kd.R_drewN | apply Kd.R_drew)); exact Kd.R_mono (Kd.R_far (p := ⟨gb561010, 1, none⟩) (Kd.R_far (p := ⟨gb561010, 0, none⟩) (Kd.R_types HO561006.out BK561010.out (by decide)) (fun _ hk => hk.2) (.slice Ao46 t561004.length co46)) (fun _ hk => hk.2) (.slice Ao50 t561007.length co50)) (fun _ hk => hk.1.1)⟩
               have n1_ : Aside0 (Kd.N (Kd.slice 2 (Kd.int .i64)) 22 ((w45.setCell ⟨gb561010, 0, none⟩ (.slice Ao46 t561004.length co46)).setCell ⟨gb561010, 1, none⟩ (.slice Ao50 t561007.length co50)) w.heap.size (fun k_ => (w.heap.size ≤ k_) ∧ some k_ ≠ (.slice Ao46 t561004.length co46 : Value).ownBlock ∧ k_ ≠ gb561001 ∧ k_ ≠ gb561002 ∧ k_ ≠ gb561010) (.slice Ao50 t561007.length co50) t561007) := ⟨by (with_reducible repeat (first | apply Kd.N_alloc | apply Kd.N_drewN | apply Kd.N_drew)); exact Kd.N_mono (Kd.N_far (p := ⟨gb561010, 1, none⟩) (Kd.N_far (p := ⟨gb561010, 0, none⟩) (Kd.N_mono HO561009.out (fun k_ hk => (⟨hk, hk.2⟩ : _ ∧ k_ ≠ gb561010))) (fun _ hk => hk.2) (.slice Ao46 t561004.length co46)) (fun _ hk => hk.2) (.slice Ao50 t561007.length co50)) (fun _ hk => ⟨hk.1.1.1, ⟨hk.1.1.2.1, ⟨hk.1.1.2.2.1, ⟨hk.1.1.2.2.2, hk.1.2⟩⟩⟩⟩)⟩
               have n2_ : Aside0 (((w45.setCell ⟨gb561010, 0, none⟩ (.slice Ao46 t561004.length co46)).setCell ⟨gb561010, 1, none⟩ (.slice Ao50 t561007.length co50)).heap[gb561001]? = some (.cells #[.slice A0_0 l0_0.length c0_0, .slice A0_1 l0_1.length c0_1] 28 (0, 0))) := ⟨by (with_reducible repeat (first | refine blk_drewN ?_ _ | refine blk_drew ?_ | refine blk_alloc ?_ _)); refine blk_far ?_ NB561001_561010.out _; (with_reducible repeat (first | refine blk_drewN ?_ _ | refine blk_drew ?_ | refine blk_alloc ?_ _)); refine blk_far ?_ NB561001_561010.out _; (with_reducible repeat (first | refine blk_drewN ?_ _ | refine blk_drew ?_ | refine blk_alloc ?_ _)); exact BK561001.out⟩
               have n3_ : Aside0 (((w45.setCell ⟨gb561010, 0, none⟩ (.slice Ao46 t561004.length co46)).setCell ⟨gb561010, 1, none⟩ (.slice Ao50 t561007.length co50)).heap[gb561002]? = some (.cells #[.slice none 0 0, .slice none 0 0] 28 (0, 0))) := ⟨by (with_reducible repeat (first | refine blk_drewN ?_ _ | refine blk_drew ?_ | refine blk_alloc ?_ _)); refine blk_far ?_ NB561002_561010.out _; (with_reducible repeat (first | refine blk_drewN ?_ _ | refine blk_drew ?_ | refine blk_alloc ?_ _)); refine blk_far ?_ NB561002_561010.out _; (with_reducible repeat (first | refine blk_drewN ?_ _ | refine blk_drew ?_ | refine blk_alloc ?_ _)); exact BK561002.out⟩
               have n4_ : Aside0 (((w45.setCell ⟨gb561010, 0, none⟩ (.slice Ao46 t561004.length co46)).setCell ⟨gb561010, 1, none⟩ (.slice Ao50 t561007.length co50)).heap[gb561010]? = some (.cells #[.slice Ao46 t561004.length co46, .slice Ao50 t561007.length co50] 28 (0, 0))) := ⟨by (with_reducible repeat (first | refine blk_drewN ?_ _ | refine blk_drew ?_ | refine blk_alloc ?_ _)); refine blk_put (cs := #[.slice Ao46 t561004.length co46, .slice none 0 0]) ?_ 1 _ rfl; (with_reducible repeat (first | refine blk_drewN ?_ _ | refine blk_drew ?_ | refine blk_alloc ?_ _)); refine blk_put (cs := #[.slice none 0 0, .slice none 0 0]) ?_ 0 _ rfl; (with_reducible repeat (first | refine blk_drewN ?_ _ | refine blk_drew ?_ | refine blk_alloc ?_ _)); exact BK561010.out⟩
               have n5_ : Aside0 (Below w.heap.size w ((w45.setCell ⟨gb561010, 0, none⟩ (.slice Ao46 t561004.length co46)).setCell ⟨gb561010, 1, none⟩ (.slice Ao50 t561007.length co50))) := ⟨by repeat (first | (with_reducible first | exact HB.out | apply below_alloc | apply pw_below_drewN | apply below_drew1 | refine below_set ?_ GE561001.out | refine below_set ?_ GE561002.out | refine below_set ?_ GE561010.out) | exact HB.out)⟩
               (try clear HO561006)
               (try clear HO561009)
               (try clear BK561001)
               (try clear BK561002)
               (try clear BK561010)
               (try clear HB)
               generalize ((w45.setCell ⟨gb561010, 0, none⟩ (.slice Ao46 t561004.length co46)).setCell ⟨gb561010, 1, none⟩ (.slice Ao50 t561007.length co50)) = w51 at n0_ n1_ n2_ n3_ n4_ n5_ ⊢
               have HO561006 := n0_
               have HO561009 := n1_
               have BK561001 := n2_
               have BK561002 := n3_
               have BK561010 := n4_
               have HB := n5_
               clear n0_ n1_ n2_ n3_ n4_ n5_
               have n0_ := Aside0.mk (Kd.R_drew HO561006.out)
               have n1_ := Aside0.mk (Kd.N_drew HO561009.out)
               have n2_ := Aside0.mk (blk_drew BK561001.out)
               have n3_ := Aside0.mk (blk_drew BK561002.out)
               have n4_ := Aside0.mk (blk_drew BK561010.out)
               have n5_ := Aside0.mk (below_drew1 HB.out)
               clear HO561006
               clear HO561009
               clear BK561001
               clear BK561002
               clear BK561010
               clear HB
               have HO561006 := n0_
               have HO561009 := n1_
               have BK561001 := n2_
               have BK561002 := n3_
               have BK561010 := n4_
               have HB := n5_
               clear n0_ n1_ n2_ n3_ n4_ n5_
               have p561011 : 0 ≤ (a1 : Int) := of_decide_eq_true (by first | (with_reducible assumption) | assumption)
               have q561011 : a1 < (l0_0.length : Int) := of_decide_eq_true (by first | (with_reducible assumption) | assumption)
               obtain ⟨ad561011, e561011, hx561011_0⟩ := Kd.at_int HR0_0.out a1 p561011 q561011
               have hw561011_0 := hx561011_0
               cases e561011
               replace hx561011_0 := (HB.out.cell (World.block_lt_of_cell? w _ hx561011_0)).trans hx561011_0
               replace p561011 := eq_true p561011
               replace q561011 := eq_true q561011
               have p561012 : 0 ≤ ((ji30) : Int) := of_decide_eq_true (by first | (with_reducible assumption) | assumption)
               have q561012 : (ji30) < (l0_0.length : Int) := of_decide_eq_true (by first | (with_reducible assumption) | assumption)
               obtain ⟨ad561012, e561012, hx561012_0⟩ := Kd.at_int HR0_0.out (ji30) p561012 q561012
               have hw561012_0 := hx561012_0
               obtain rfl : ad561011 = ad561012 := (by injection e561012)
               replace hx561012_0 := (HB.out.cell (World.block_lt_of_cell? w _ hx561012_0)).trans hx561012_0
               replace p561012 := eq_true p561012
               replace q561012 := eq_true q561012
               refine start_ (n := 19) (S := fun w' => w'.cell? ⟨gb561010, 0, none⟩ = some (.slice Ao46 t561004.length co46) ∧ w'.cell? ⟨gb561010, 1, none⟩ = some (.slice Ao50 t561007.length co50) ∧ w'.cell? ⟨gb561001, 0, none⟩ = some (.slice (some ad561011) l0_0.length c0_0) ∧ w'.cell? ⟨gb561001, 1, none⟩ = some (.slice A0_1 l0_1.length c0_1) ∧ w'.cell? (ad561011.add (a1).toNat) = some (.int .i64 (rd l0_0 a1)) ∧ w'.cell? (ad561011.add ((ji30)).toNat) = some (.int .i64 (rd l0_0 (ji30)))) (ds := [18]) #[false, false, false, false, false, false, false, false, false, false, false, false, false, false, false, false, false, false, false] (by kernel_rfl) rfl rfl ⟨(blk_cell BK561010.out 0).trans rfl, (blk_cell BK561010.out 1).trans rfl, (blk_cell BK561001.out 0).trans rfl, (blk_cell BK561001.out 1).trans rfl, ((HB.out.cell (World.block_lt_of_cell? w _ hw561011_0)).trans hw561011_0), ((HB.out.cell (World.block_lt_of_cell? w _ hw561012_0)).trans hw561012_0)⟩ (fun hHeld => ?_); refine with_tabW spec_ForkLegs.tab15 spec_ForkLegs.bits15 (fun HT_ HW_ => ?_)
               generalize w51.drew = w52 at HO561006 HO561009 BK561001 BK561002 BK561010 HB hx561011_0 hx561012_0 hHeld ⊢
               refine pure_ (i := 0) (N := some 47) (v := ?_) (a' := ?_) #[true, false, false, false, false, false, false, false, false, false, false, false, false, false, false, false, false, false, false] rfl rfl (any_of HT_.out (by kernel_rfl)) (fun _ _ _ h => h) (Or.inl ⟨by rfl, ?_⟩) ?_ ?_
               rotate_left
               ·intro w'
                go_simp
                with_reducible rfl
               rotate_left
               ·simp only [Act.put, List.setIfInBounds_toArray, List.set_cons_zero, List.set_cons_succ, i64_w, i32_w]
                rfl
               refine pure_ (i := 2) (N := some 49) (v := ?_) (a' := ?_) #[true, false, true, false, false, false, false, false, false, false, false, false, false, false, false, false, false, false, false] rfl rfl (any_of HT_.out (by kernel_rfl)) (fun _ _ _ h => h) (Or.inl ⟨by rfl, ?_⟩) ?_ ?_
               rotate_left
               ·intro w'
                go_simp
                with_reducible rfl
               rotate_left
               ·simp only [Act.put, List.setIfInBounds_toArray, List.set_cons_zero, List.set_cons_succ, i64_w, i32_w]
                rfl
               refine pure_ (i := 3) (N := some 50) (v := ?_) (a' := ?_) #[true, false, true, true, false, false, false, false, false, false, false, false, false, false, false, false, false, false, false] rfl rfl (any_of HT_.out (by kernel_rfl)) (fun _ _ _ h => h) (Or.inl ⟨by rfl, ?_⟩) ?_ ?_
               rotate_left
               ·intro w'
                go_simp
                with_reducible rfl
               rotate_left
               ·simp only [Act.put, List.setIfInBounds_toArray, List.set_cons_zero, List.set_cons_succ, i64_w, i32_w]
                rfl
               refine pure_ (i := 5) (N := some 52) (v := ?_) (a' := ?_) #[true, false, true, true, false, true, false, false, false, false, false, false, false, false, false, false, false, false, false] rfl rfl (any_of HT_.out (by kernel_rfl)) (fun _ _ _ h => h) (Or.inl ⟨by rfl, ?_⟩) ?_ ?_
               rotate_left
               ·intro w'
                go_simp
                with_reducible rfl
               rotate_left
               ·simp only [Act.put, List.setIfInBounds_toArray, List.set_cons_zero, List.set_cons_succ, i64_w, i32_w]
                rfl
               refine pure_ (i := 8) (N := some 55) (v := ?_) (a' := ?_) #[true, false, true, true, false, true, false, false, true, false, false, false, false, false, false, false, false, false, false] rfl rfl (any_of HT_.out (by kernel_rfl)) (fun _ _ _ h => h) (Or.inl ⟨by rfl, ?_⟩) ?_ ?_
               rotate_left
               ·intro w'
                go_simp
                with_reducible rfl
               rotate_left
               ·simp only [Act.put, List.setIfInBounds_toArray, List.set_cons_zero, List.set_cons_succ, i64_w, i32_w]
                rfl
               refine pure_ (i := 10) (N := some 57) (v := ?_) (a' := ?_) #[true, false, true, true, false, true, false, false, true, false, true, false, false, false, false, false, false, false, false] rfl rfl (any_of HT_.out (by kernel_rfl)) (fun _ _ _ h => h) (Or.inl ⟨by rfl, ?_⟩) ?_ ?_
               rotate_left
               ·intro w'
                go_simp
                with_reducible rfl
               rotate_left
               ·simp only [Act.put, List.setIfInBounds_toArray, List.set_cons_zero, List.set_cons_succ, i64_w, i32_w]
                rfl
               refine pure_ (i := 11) (N := some 58) (v := ?_) (a' := ?_) #[true, false, true, true, false, true, false, false, true, false, true, true, false, false, false, false, false, false, false] rfl rfl (any_of HT_.out (by kernel_rfl)) (fun _ _ _ h => h) (Or.inl ⟨by rfl, ?_⟩) ?_ ?_
               rotate_left
               ·intro w'
                go_simp
                with_reducible rfl
               rotate_left
               ·simp only [Act.put, List.setIfInBounds_toArray, List.set_cons_zero, List.set_cons_succ, i64_w, i32_w]
                rfl
               refine take_ (i := 1) (N := some 48) (v := ?_) (a' := ?_) #[true, true, true, true, false, true, false, false, true, false, true, true, false, false, false, false, false, false, false] rfl rfl (take_ofW HT_.out HW_.out (by kernel_rfl)) (fun _ _ _ h => h) (Or.inl ⟨by rfl, ?_⟩) hHeld ?_ ?_
               rotate_left
               ·rintro w' ⟨s0, s1, s2, s3, s4, s5⟩
                go_simp
                with_reducible rfl
               rotate_left
               ·simp only [Act.put, List.setIfInBounds_toArray, List.set_cons_zero, List.set_cons_succ, i64_w, i32_w]
                rfl
               refine take_ (i := 4) (N := some 51) (v := ?_) (a' := ?_) #[true, true, true, true, true, true, false, false, true, false, true, true, false, false, false, false, false, false, false] rfl rfl (take_ofW HT_.out HW_.out (by kernel_rfl)) (fun _ _ _ h => h) (Or.inl ⟨by rfl, ?_⟩) hHeld ?_ ?_
               rotate_left
               ·rintro w' ⟨s0, s1, s2, s3, s4, s5⟩
                go_simp
                with_reducible rfl
               rotate_left
               ·simp only [Act.put, List.setIfInBounds_toArray, List.set_cons_zero, List.set_cons_succ, i64_w, i32_w]
                rfl
               refine pure_ (i := 6) (N := some 53) (v := ?_) (a' := ?_) #[true, true, true, true, true, true, true, false, true, false, true, true, false, false, false, false, false, false, false] rfl rfl (any_of HT_.out (by kernel_rfl)) (fun _ _ _ h => h) (Or.inl ⟨by rfl, ?_⟩) ?_ ?_
               rotate_left
               ·intro w'
                go_simp
                with_reducible rfl
               rotate_left
               ·simp only [Act.put, List.setIfInBounds_toArray, List.set_cons_zero, List.set_cons_succ, i64_w, i32_w]
                rfl
               refine take_ (i := 7) (N := some 54) (v := ?_) (a' := ?_) #[true, true, true, true, true, true, true, true, true, false, true, true, false, false, false, false, false, false, false] rfl rfl (take_ofW HT_.out HW_.out (by kernel_rfl)) (fun _ _ _ h => h) (Or.inl ⟨by rfl, ?_⟩) hHeld ?_ ?_
               rotate_left
               ·rintro w' ⟨s0, s1, s2, s3, s4, s5⟩
                go_simp
                with_reducible rfl
               rotate_left
               ·simp only [Act.put, List.setIfInBounds_toArray, List.set_cons_zero, List.set_cons_succ, i64_w, i32_w]
                rfl
               refine take_ (i := 9) (N := some 56) (v := ?_) (a' := ?_) #[true, true, true, true, true, true, true, true, true, true, true, true, false, false, false, false, false, false, false] rfl rfl (take_ofW HT_.out HW_.out (by kernel_rfl)) (fun _ _ _ h => h) (Or.inl ⟨by rfl, ?_⟩) hHeld ?_ ?_
               rotate_left
               ·rintro w' ⟨s0, s1, s2, s3, s4, s5⟩
                go_simp
                with_reducible rfl
               rotate_left
               ·simp only [Act.put, List.setIfInBounds_toArray, List.set_cons_zero, List.set_cons_succ, i64_w, i32_w]
                rfl
               refine pure_ (i := 12) (N := some 59) (v := ?_) (a' := ?_) #[true, true, true, true, true, true, true, true, true, true, true, true, true, false, false, false, false, false, false] rfl rfl (any_of HT_.out (by kernel_rfl)) (fun _ _ _ h => h) (Or.inl ⟨by rfl, ?_⟩) ?_ ?_
               rotate_left
               ·intro w'
                go_simp
                with_reducible rfl
               rotate_left
               ·simp only [Act.put, List.setIfInBounds_toArray, List.set_cons_zero, List.set_cons_succ, i64_w, i32_w]
                rfl
               refine take_ (i := 13) (N := some 60) (v := ?_) (a' := ?_) #[true, true, true, true, true, true, true, true, true, true, true, true, true, true, false, false, false, false, false] rfl rfl (take_ofW HT_.out HW_.out (by kernel_rfl)) (fun _ _ _ h => h) (Or.inl ⟨by rfl, ?_⟩) hHeld ?_ ?_
               rotate_left
               ·rintro w' ⟨s0, s1, s2, s3, s4, s5⟩
                go_simp
                with_reducible rfl
               rotate_left
               ·simp only [Act.put, List.setIfInBounds_toArray, List.set_cons_zero, List.set_cons_succ, i64_w, i32_w]
                rfl
               refine one_ (i := 14) (N := some 61) #[true, true, true, true, true, true, true, true, true, true, true, true, true, true, true, false, false, false, false] rfl rfl (one_of HT_.out (by kernel_rfl)) (by decide) (fun K hK => ?_)
               refine Kd.R_lit_step (Kd.int .i64) _ 2 ?hg (N := 61) ?hd (xs := ([x7_1, rd l0_0 a1, rd l0_0 (ji30)] : List Int)) (inner := [.int .i64 x7_1, .int .i64 (rd l0_0 a1), .int .i64 (rd l0_0 (ji30))]) (ok := fun _ => True) (okp := fun _ => True) ?hr ?hp (fun _ hk => hk) trivial (Below.refl _ _) (Nat.le_refl _) (by simp) ?_; (case hd => rfl); (case hg => rfl); (case hr => first | (go_simp; done) | (go_simp; rfl)); (case hp => exact (Reps.one (show Kd.M (Kd.int .i64) _ _ _ x7_1 [.int .i64 x7_1] from rfl) (Reps.one (show Kd.M (Kd.int .i64) _ _ _ (rd l0_0 a1) [.int .i64 (rd l0_0 a1)] from rfl) (Reps.one (show Kd.M (Kd.int .i64) _ _ _ (rd l0_0 (ji30)) [.int .i64 (rd l0_0 (ji30))] from rfl) (Reps.none _ _)))))
               intro v561014 w53 ho54 hb hg_ hnew_
               clear hg_ hnew_
               (first | rw [← Ny561013.out] at ho54 | (simp only [Int.reduceToNat] at ho54; rw [← Ny561013.out] at ho54))
               have n0_ := Aside0.mk (Kd.R_elder' (by (with_reducible repeat (first | apply Kd.R_alloc | apply Kd.R_drewN | apply Kd.R_drew)); exact HO561006.out) (Kd.R_base ho54) hb)
               have n1_ := Aside0.mk (Kd.N_elder' (by (with_reducible repeat (first | apply Kd.N_alloc | apply Kd.N_drewN | apply Kd.N_drew)); exact HO561009.out) (Kd.R_base ho54) hb)
               have n2_ := Aside0.mk (Kd.R_lower (Kd.R_new' (Kd.R_newM (M := fun k_ => (w.heap.size ≤ k_)) ho54 (below_size (by repeat (first | (with_reducible first | exact HB.out | apply below_alloc | apply pw_below_drewN | apply below_drew1 | refine below_set ?_ GE561001.out | refine below_set ?_ GE561002.out | refine below_set ?_ GE561010.out) | exact HB.out))) (fun k_ h_ => h_)) (Kd.R_lt (by (with_reducible repeat (first | apply Kd.R_alloc | apply Kd.R_drewN | apply Kd.R_drew)); exact HO561006.out))) (below_size (by repeat (first | (with_reducible first | exact HB.out | apply below_alloc | apply pw_below_drewN | apply below_drew1 | refine below_set ?_ GE561001.out | refine below_set ?_ GE561002.out | refine below_set ?_ GE561010.out) | exact HB.out))))
               have n3_ := Aside0.mk (blk_below (g := gb561001) (o := .cells #[.slice (some ad561011) l0_0.length c0_0, .slice A0_1 l0_1.length c0_1] 28 (0, 0)) (by (with_reducible repeat (first | refine blk_drewN ?_ _ | refine blk_drew ?_ | refine blk_alloc ?_ _)); exact BK561001.out) hb)
               have n4_ := Aside0.mk (blk_below (g := gb561002) (o := .cells #[.slice none 0 0, .slice none 0 0] 28 (0, 0)) (by (with_reducible repeat (first | refine blk_drewN ?_ _ | refine blk_drew ?_ | refine blk_alloc ?_ _)); exact BK561002.out) hb)
               have n5_ := Aside0.mk (blk_below (g := gb561010) (o := .cells #[.slice Ao46 t561004.length co46, .slice Ao50 t561007.length co50] 28 (0, 0)) (by (with_reducible repeat (first | refine blk_drewN ?_ _ | refine blk_drew ?_ | refine blk_alloc ?_ _)); exact BK561010.out) hb)
               have n6_ := Aside0.mk (below_step (by repeat (first | (with_reducible first | exact HB.out | apply below_alloc | apply pw_below_drewN | apply below_drew1 | refine below_set ?_ GE561001.out | refine below_set ?_ GE561002.out | refine below_set ?_ GE561010.out) | exact HB.out)) hb)
               clear HO561006
               clear HO561009
               clear BK561001
               clear BK561002
               clear BK561010
               clear HB
               have HO561006 := n0_
               have HO561009 := n1_
               have HO561015 := n2_
               have BK561001 := n3_
               have BK561002 := n4_
               have BK561010 := n5_
               have HB := n6_
               clear n0_ n1_ n2_ n3_ n4_ n5_ n6_
               clear hb ho54
               obtain ⟨Ao55, co55, eo55⟩ := Kd.R_slice HO561015.out
               (first | subst eo55 | (injection eo55 with f1_ f2_ f3_; have f4_ := f1_.symm; have f5_ := f3_.symm; clear f1_ f2_ f3_; subst f4_; subst f5_))
               refine hK.out _ _ ⟨(blk_cell BK561010.out 0).trans rfl, (blk_cell BK561010.out 1).trans rfl, (blk_cell BK561001.out 0).trans rfl, (blk_cell BK561001.out 1).trans rfl, ((HB.out.cell (World.block_lt_of_cell? w _ hw561011_0)).trans hw561011_0), ((HB.out.cell (World.block_lt_of_cell? w _ hw561012_0)).trans hw561012_0)⟩ (fun hHeld => ?_)
               clear hK K
               refine norm_ (a' := ?_) ?_ ?_
               rotate_left
               ·show Act.put _ (some 61) _ = _
                simp only [Act.put, List.setIfInBounds_toArray, List.set_cons_zero, List.set_cons_succ, i64_w, i32_w]
                rfl
               refine one_ (i := 15) (N := some 62) #[true, true, true, true, true, true, true, true, true, true, true, true, true, true, true, true, false, false, false] rfl rfl (one_of HT_.out (by kernel_rfl)) (by decide) (fun K hK => ?_)
               refine Kd.N_lit_step (Kd.slice 2 (Kd.int .i64)) _ 22 ?hg (N' := 62) ?hd (xs := ([y561013] : List (List Int))) (inner := [.slice Ao55 y561013.length co55]) (ok := (fun k_ => (w.heap.size ≤ k_) ∧ some k_ ≠ (.slice Ao46 t561004.length co46 : Value).ownBlock ∧ some k_ ≠ (.slice Ao50 t561007.length co50 : Value).ownBlock ∧ k_ ≠ gb561001 ∧ k_ ≠ gb561002 ∧ k_ ≠ gb561010)) (okp := (fun k_ => (w.heap.size ≤ k_) ∧ some k_ ≠ (.slice Ao46 t561004.length co46 : Value).ownBlock ∧ some k_ ≠ (.slice Ao50 t561007.length co50 : Value).ownBlock ∧ k_ ≠ gb561001 ∧ k_ ≠ gb561002 ∧ k_ ≠ gb561010)) ?hr ?hp (fun _ hk => hk) ((show ∀ k_, w53.heap.size ≤ k_ → (fun k_ => (w.heap.size ≤ k_) ∧ some k_ ≠ (.slice Ao46 t561004.length co46 : Value).ownBlock ∧ some k_ ≠ (.slice Ao50 t561007.length co50 : Value).ownBlock ∧ k_ ≠ gb561001 ∧ k_ ≠ gb561002 ∧ k_ ≠ gb561010) k_ from fun k_ hk => ⟨(Nat.le_trans (below_size (by repeat (first | (with_reducible first | exact HB.out | apply below_alloc | apply pw_below_drewN | apply below_drew1 | refine below_set ?_ GE561001.out | refine below_set ?_ GE561002.out | refine below_set ?_ GE561010.out) | exact HB.out))) hk), Kd.fresh' (Kd.R_lt (by (with_reducible repeat (first | apply Kd.R_alloc | apply Kd.R_drewN | apply Kd.R_drew)); exact HO561006.out)) k_ hk, Kd.fresh' (Kd.N_lt (by (with_reducible repeat (first | apply Kd.N_alloc | apply Kd.N_drewN | apply Kd.N_drew)); exact HO561009.out)) k_ hk, Kd.freshB (g := gb561001) (o := .cells #[.slice (some ad561011) l0_0.length c0_0, .slice A0_1 l0_1.length c0_1] 28 (0, 0)) (by (with_reducible repeat (first | refine blk_drewN ?_ _ | refine blk_drew ?_ | refine blk_alloc ?_ _)); exact BK561001.out) k_ hk, Kd.freshB (g := gb561002) (o := .cells #[.slice none 0 0, .slice none 0 0] 28 (0, 0)) (by (with_reducible repeat (first | refine blk_drewN ?_ _ | refine blk_drew ?_ | refine blk_alloc ?_ _)); exact BK561002.out) k_ hk, Kd.freshB (g := gb561010) (o := .cells #[.slice Ao46 t561004.length co46, .slice Ao50 t561007.length co50] 28 (0, 0)) (by (with_reducible repeat (first | refine blk_drewN ?_ _ | refine blk_drew ?_ | refine blk_alloc ?_ _)); exact BK561010.out) k_ hk⟩) _ (Nat.le_refl _)) (Below.refl _ _) (Nat.le_refl _) (by simp) ?_; (case hd => rfl); (case hg => rfl); (case hr => first | (go_simp; done) | (go_simp; rfl)); (case hp => exact (Reps.one (show Kd.FK (Kd.slice 2 (Kd.int .i64)) _ _ y561013 [.slice Ao55 y561013.length co55] from (Kd.FK_slice_mk (Kd.R_reads' (Kd.R_mono (ok' := (fun k_ => (w.heap.size ≤ k_) ∧ some k_ ≠ (.slice Ao46 t561004.length co46 : Value).ownBlock ∧ some k_ ≠ (.slice Ao50 t561007.length co50 : Value).ownBlock ∧ k_ ≠ gb561001 ∧ k_ ≠ gb561002 ∧ k_ ≠ gb561010)) (Kd.R_types (Kd.R_types (Kd.R_types (Kd.R_apart' (HO561015.out) (Kd.N_typed HO561009.out) (by decide)) BK561001.out (by decide)) BK561002.out (by decide)) BK561010.out (by decide)) (fun k_ hk => ⟨hk.1.1.1.1.1.1, ⟨hk.1.1.1.1.2, ⟨hk.1.1.1.2, ⟨hk.1.1.2, ⟨hk.1.2, hk.2⟩⟩⟩⟩⟩))).2.1 (Kd.R_F (Kd.R_mono (ok' := (fun k_ => (w.heap.size ≤ k_) ∧ some k_ ≠ (.slice Ao46 t561004.length co46 : Value).ownBlock ∧ some k_ ≠ (.slice Ao50 t561007.length co50 : Value).ownBlock ∧ k_ ≠ gb561001 ∧ k_ ≠ gb561002 ∧ k_ ≠ gb561010)) (Kd.R_types (Kd.R_types (Kd.R_types (Kd.R_apart' (HO561015.out) (Kd.N_typed HO561009.out) (by decide)) BK561001.out (by decide)) BK561002.out (by decide)) BK561010.out (by decide)) (fun k_ hk => ⟨hk.1.1.1.1.1.1, ⟨hk.1.1.1.1.2, ⟨hk.1.1.1.2, ⟨hk.1.1.2, ⟨hk.1.2, hk.2⟩⟩⟩⟩⟩))))) (Reps.none _ _)))
               intro v561017 w56 ho57 hb hg_ hnew_
               clear hg_ hnew_
               (first | rw [← Ny561016.out] at ho57 | (simp only [Int.reduceToNat] at ho57; rw [← Ny561016.out] at ho57))
               have n0_ := Aside0.mk (Kd.R_below (by (with_reducible repeat (first | apply Kd.R_alloc | apply Kd.R_drewN | apply Kd.R_drew)); exact HO561006.out) hb)
               have n1_ := Aside0.mk (Kd.N_elder' (by (with_reducible repeat (first | apply Kd.N_alloc | apply Kd.N_drewN | apply Kd.N_drew)); exact HO561009.out) (Kd.N_base ho57) hb)
               have n2_ := Aside0.mk (Kd.N_lower ho57 (below_size (by repeat (first | (with_reducible first | exact HB.out | apply below_alloc | apply pw_below_drewN | apply below_drew1 | refine below_set ?_ GE561001.out | refine below_set ?_ GE561002.out | refine below_set ?_ GE561010.out) | exact HB.out))))
               have n3_ := Aside0.mk (blk_below (g := gb561001) (o := .cells #[.slice (some ad561011) l0_0.length c0_0, .slice A0_1 l0_1.length c0_1] 28 (0, 0)) (by (with_reducible repeat (first | refine blk_drewN ?_ _ | refine blk_drew ?_ | refine blk_alloc ?_ _)); exact BK561001.out) hb)
               have n4_ := Aside0.mk (blk_below (g := gb561002) (o := .cells #[.slice none 0 0, .slice none 0 0] 28 (0, 0)) (by (with_reducible repeat (first | refine blk_drewN ?_ _ | refine blk_drew ?_ | refine blk_alloc ?_ _)); exact BK561002.out) hb)
               have n5_ := Aside0.mk (blk_below (g := gb561010) (o := .cells #[.slice Ao46 t561004.length co46, .slice Ao50 t561007.length co50] 28 (0, 0)) (by (with_reducible repeat (first | refine blk_drewN ?_ _ | refine blk_drew ?_ | refine blk_alloc ?_ _)); exact BK561010.out) hb)
               have n6_ := Aside0.mk (below_step (by repeat (first | (with_reducible first | exact HB.out | apply below_alloc | apply pw_below_drewN | apply below_drew1 | refine below_set ?_ GE561001.out | refine below_set ?_ GE561002.out | refine below_set ?_ GE561010.out) | exact HB.out)) hb)
               clear HO561006
               clear HO561009
               clear BK561001
               clear BK561002
               clear BK561010
               clear HB
               clear HO561015
               have HO561006 := n0_
               have HO561009 := n1_
               have HO561018 := n2_
               have BK561001 := n3_
               have BK561002 := n4_
               have BK561010 := n5_
               have HB := n6_
               clear n0_ n1_ n2_ n3_ n4_ n5_ n6_
               clear hb ho57
               obtain ⟨Ao59, co59, eo59⟩ := Kd.N_slice HO561018.out
               (first | subst eo59 | (injection eo59 with f1_ f2_ f3_; have f4_ := f1_.symm; have f5_ := f3_.symm; clear f1_ f2_ f3_; subst f4_; subst f5_))
               refine hK.out _ _ ⟨(blk_cell BK561010.out 0).trans rfl, (blk_cell BK561010.out 1).trans rfl, (blk_cell BK561001.out 0).trans rfl, (blk_cell BK561001.out 1).trans rfl, ((HB.out.cell (World.block_lt_of_cell? w _ hw561011_0)).trans hw561011_0), ((HB.out.cell (World.block_lt_of_cell? w _ hw561012_0)).trans hw561012_0)⟩ (fun hHeld => ?_)
               clear hK K
               refine norm_ (a' := ?_) ?_ ?_
               rotate_left
               ·show Act.put _ (some 62) _ = _
                simp only [Act.put, List.setIfInBounds_toArray, List.set_cons_zero, List.set_cons_succ, i64_w, i32_w]
                rfl
               refine one_ (i := 16) (N := some 63) #[true, true, true, true, true, true, true, true, true, true, true, true, true, true, true, true, true, false, false] rfl rfl (one_of HT_.out (by kernel_rfl)) (by decide) (fun K hK => ?_)
               refine Kd.N_append_rows_step (Kd.slice 2 (Kd.int .i64)) (w0 := w) w.heap.size (by rfl) (.tmp 48) (.tmp 62) 23 22 (.slice none 0 0) 24 rfl Try.underlying23 info22 rfl (by decide) (by omega) (.slice Ao50 t561007.length co50) t561007 y561016 _ _ _ (fun k_ => (w.heap.size ≤ k_) ∧ some k_ ≠ (.slice Ao46 t561004.length co46 : Value).ownBlock ∧ k_ ≠ gb561001 ∧ k_ ≠ gb561002 ∧ k_ ≠ gb561010) (fun k_ => ((fun k_ => (w.heap.size ≤ k_) ∧ some k_ ≠ (.slice Ao46 t561004.length co46 : Value).ownBlock ∧ k_ ≠ gb561001 ∧ k_ ≠ gb561002 ∧ k_ ≠ gb561010)) k_ ∧ some k_ ≠ (.slice Ao50 t561007.length co50 : Value).ownBlock) rfl rfl ?aO ?aR (fun _ hk => hk) ?aF ?aB ?aS ?aL ?_
               (case aR => exact (by skip; exact Kd.N_F (Kd.N_mono (ok' := (fun k_ => ((fun k_ => (w.heap.size ≤ k_) ∧ some k_ ≠ (.slice Ao46 t561004.length co46 : Value).ownBlock ∧ k_ ≠ gb561001 ∧ k_ ≠ gb561002 ∧ k_ ≠ gb561010)) k_ ∧ some k_ ≠ (.slice Ao50 t561007.length co50 : Value).ownBlock)) (HO561018.out) (fun k_ hk => ⟨⟨hk.1, ⟨hk.2.1, ⟨hk.2.2.2.1, ⟨hk.2.2.2.2.1, hk.2.2.2.2.2⟩⟩⟩⟩, hk.2.2.1⟩))))
               (case aB => exact (by repeat (first | (with_reducible first | exact HB.out | apply below_alloc | apply pw_below_drewN | apply below_drew1 | refine below_set ?_ GE561001.out | refine below_set ?_ GE561002.out | refine below_set ?_ GE561010.out) | exact HB.out)))
               (case aF => exact (fun k_ hk => ⟨(Nat.le_trans (below_size (by repeat (first | (with_reducible first | exact HB.out | apply below_alloc | apply pw_below_drewN | apply below_drew1 | refine below_set ?_ GE561001.out | refine below_set ?_ GE561002.out | refine below_set ?_ GE561010.out) | exact HB.out))) hk), Kd.fresh' (Kd.R_lt (by (with_reducible repeat (first | apply Kd.R_alloc | apply Kd.R_drewN | apply Kd.R_drew)); exact HO561006.out)) k_ hk, Kd.freshB (g := gb561001) (o := .cells #[.slice (some ad561011) l0_0.length c0_0, .slice A0_1 l0_1.length c0_1] 28 (0, 0)) (by (with_reducible repeat (first | refine blk_drewN ?_ _ | refine blk_drew ?_ | refine blk_alloc ?_ _)); exact BK561001.out) k_ hk, Kd.freshB (g := gb561002) (o := .cells #[.slice none 0 0, .slice none 0 0] 28 (0, 0)) (by (with_reducible repeat (first | refine blk_drewN ?_ _ | refine blk_drew ?_ | refine blk_alloc ?_ _)); exact BK561002.out) k_ hk, Kd.freshB (g := gb561010) (o := .cells #[.slice Ao46 t561004.length co46, .slice Ao50 t561007.length co50] 28 (0, 0)) (by (with_reducible repeat (first | refine blk_drewN ?_ _ | refine blk_drew ?_ | refine blk_alloc ?_ _)); exact BK561010.out) k_ hk⟩))
               (case aO => exact (by (with_reducible repeat (first | apply Kd.N_alloc | apply Kd.N_drewN | apply Kd.N_drew)); exact Kd.N_mono HO561009.out (fun _ hk => ⟨hk.1.1.1, ⟨hk.1.1.2.1, ⟨hk.1.1.2.2.1, ⟨hk.1.1.2.2.2.1, hk.1.1.2.2.2.2⟩⟩⟩⟩)))
               (case aS => exact (below_size (by repeat (first | (with_reducible first | exact HB.out | apply below_alloc | apply pw_below_drewN | apply below_drew1 | refine below_set ?_ GE561001.out | refine below_set ?_ GE561002.out | refine below_set ?_ GE561010.out) | exact HB.out))))
               (case aL => have := LMc33.out; omega)
               intro v561020 w58 ho hb hg hat
               rw [← Ny561019.out] at ho
               have n0_ := Aside0.mk (blk_grown (g := gb561001) (o := .cells #[.slice (some ad561011) l0_0.length c0_0, .slice A0_1 l0_1.length c0_1] 28 (0, 0)) (by (with_reducible repeat (first | refine blk_drewN ?_ _ | refine blk_drew ?_ | refine blk_alloc ?_ _)); exact BK561001.out) hg (Kd.N_ne HO561009.out BK561001.out (by decide)))
               have n1_ := Aside0.mk (blk_grown (g := gb561002) (o := .cells #[.slice none 0 0, .slice none 0 0] 28 (0, 0)) (by (with_reducible repeat (first | refine blk_drewN ?_ _ | refine blk_drew ?_ | refine blk_alloc ?_ _)); exact BK561002.out) hg (Kd.N_ne HO561009.out BK561002.out (by decide)))
               have n2_ := Aside0.mk (Kd.R_over' (by (with_reducible repeat (first | apply Kd.R_alloc | apply Kd.R_drewN | apply Kd.R_drew)); exact HO561006.out) (Kd.N_typed (by (with_reducible repeat (first | apply Kd.N_alloc | apply Kd.N_drewN | apply Kd.N_drew)); exact HO561009.out)) (by decide) hg)
               have n3_ := Aside0.mk (blk_grown (g := gb561010) (o := .cells #[.slice Ao46 t561004.length co46, .slice Ao50 t561007.length co50] 28 (0, 0)) (by (with_reducible repeat (first | refine blk_drewN ?_ _ | refine blk_drew ?_ | refine blk_alloc ?_ _)); exact BK561010.out) hg (Kd.N_ne HO561009.out BK561010.out (by decide)))
               have n4_ := Aside0.mk (Kd.N_afterv (ok := (fun k_ => (w.heap.size ≤ k_) ∧ some k_ ≠ (.slice Ao46 t561004.length co46 : Value).ownBlock ∧ k_ ≠ gb561001 ∧ k_ ≠ gb561002 ∧ k_ ≠ gb561010)) (by (with_reducible repeat (first | apply Kd.N_alloc | apply Kd.N_drewN | apply Kd.N_drew)); exact Kd.N_mono HO561018.out (fun _ hk => ⟨⟨hk.1, ⟨hk.2.1, ⟨hk.2.2.2.1, ⟨hk.2.2.2.2.1, hk.2.2.2.2.2⟩⟩⟩⟩, hk.2.2.1⟩)) hg hat)
               have n5_ := Aside0.mk (hb)
               have n6_ := Aside0.mk (ho)
               clear BK561001
               clear BK561002
               clear HO561006
               clear BK561010
               clear HO561018
               clear HB
               clear HO561009
               have BK561001 := n0_
               have BK561002 := n1_
               have HO561006 := n2_
               have BK561010 := n3_
               have HO561018 := n4_
               have HB := n5_
               have HO561021 := n6_
               clear n0_ n1_ n2_ n3_ n4_ n5_ n6_
               clear ho hb hg hat
               obtain ⟨Ao60, co60, eo60⟩ := Kd.N_slice HO561021.out
               (first | subst eo60 | (injection eo60 with f1_ f2_ f3_; have f4_ := f1_.symm; have f5_ := f3_.symm; clear f1_ f2_ f3_; subst f4_; subst f5_))
               refine hK.out _ _ ⟨(blk_cell BK561010.out 0).trans rfl, (blk_cell BK561010.out 1).trans rfl, (blk_cell BK561001.out 0).trans rfl, (blk_cell BK561001.out 1).trans rfl, ((HB.out.cell (World.block_lt_of_cell? w _ hw561011_0)).trans hw561011_0), ((HB.out.cell (World.block_lt_of_cell? w _ hw561012_0)).trans hw561012_0)⟩ (fun hHeld => ?_)
               clear hK K
               refine norm_ (a' := ?_) ?_ ?_
               rotate_left
               ·show Act.put _ (some 63) _ = _
                simp only [Act.put, List.setIfInBounds_toArray, List.set_cons_zero, List.set_cons_succ, i64_w, i32_w]
                rfl
               refine pure_ (i := 17) (N := some 64) (v := ?_) (a' := ?_) #[true, true, true, true, true, true, true, true, true, true, true, true, true, true, true, true, true, true, false] rfl rfl (any_of HT_.out (by kernel_rfl)) (fun _ _ _ h => h) (Or.inl ⟨by rfl, ?_⟩) ?_ ?_
               rotate_left
               ·intro w'
                go_simp
                with_reducible rfl
               rotate_left
               ·simp only [Act.put, List.setIfInBounds_toArray, List.set_cons_zero, List.set_cons_succ, i64_w, i32_w]
                rfl
               refine last_ (i := 18) (N := none) #[true, true, true, true, true, true, true, true, true, true, true, true, true, true, true, true, true, true, true] rfl rfl (one_of HT_.out (by kernel_rfl)) (by decide) (fun K hK => ?_)
               have hs61 : w58.cell? ⟨gb561010, 1, none⟩ = some (.slice Ao50 t561007.length co50) := (blk_cell BK561010.out 1).trans rfl
               have hfs61 := blk_frozen BK561010.out 1
               have hns61_0 := NB561001_561010.out
               have hns61_1 := NB561002_561010.out
               have hms61_0 := NB561010_561001.out
               have hms61_1 := NB561010_561002.out
               refine skip_ (w1 := ?_) (by rfl) rfl ?_ ?_
               rotate_left
               ·go_simp
                rfl
               refine hK.out _ _ ?_
               clear hK K
               refine done_ (done_of HT_.out (by kernel_rfl)) ?_
               try go_wp2
               have n0_ : Aside0 (Kd.R (Kd.int .i64) 2 (w58.setCell ⟨gb561010, 1, none⟩ (.slice Ao60 y561019.length co60)) w.heap.size (fun k_ => (w.heap.size ≤ k_)) (.slice Ao46 t561004.length co46) t561004) := ⟨by (with_reducible repeat (first | apply Kd.R_alloc | apply Kd.R_drewN | apply Kd.R_drew)); exact Kd.R_mono (Kd.R_far (p := ⟨gb561010, 1, none⟩) (Kd.R_types HO561006.out BK561010.out (by decide)) (fun _ hk => hk.2) (.slice Ao60 y561019.length co60)) (fun _ hk => hk.1.1)⟩
               have n1_ : Aside0 (Kd.N (Kd.slice 2 (Kd.int .i64)) 22 (w58.setCell ⟨gb561010, 1, none⟩ (.slice Ao60 y561019.length co60)) w.heap.size (fun k_ => (w.heap.size ≤ k_) ∧ some k_ ≠ (.slice Ao46 t561004.length co46 : Value).ownBlock ∧ some k_ ≠ (.slice Ao60 y561019.length co60 : Value).ownBlock ∧ k_ ≠ gb561001 ∧ k_ ≠ gb561002 ∧ k_ ≠ gb561010) (.slice Ao59 y561016.length co59) y561016) := ⟨by (with_reducible repeat (first | apply Kd.N_alloc | apply Kd.N_drewN | apply Kd.N_drew)); exact Kd.N_mono (Kd.N_far (p := ⟨gb561010, 1, none⟩) (Kd.N_mono HO561018.out (fun k_ hk => (⟨hk, hk.1.2.2.2.2⟩ : _ ∧ k_ ≠ gb561010))) (fun _ hk => hk.2) (.slice Ao60 y561019.length co60)) (fun _ hk => ⟨hk.1.1.1, ⟨hk.1.1.2.1, ⟨hk.1.2, ⟨hk.1.1.2.2.1, ⟨hk.1.1.2.2.2.1, hk.1.1.2.2.2.2⟩⟩⟩⟩⟩)⟩
               have n2_ : Aside0 (Kd.N (Kd.slice 2 (Kd.int .i64)) 22 (w58.setCell ⟨gb561010, 1, none⟩ (.slice Ao60 y561019.length co60)) w.heap.size (fun k_ => (w.heap.size ≤ k_) ∧ some k_ ≠ (.slice Ao46 t561004.length co46 : Value).ownBlock ∧ k_ ≠ gb561001 ∧ k_ ≠ gb561002 ∧ k_ ≠ gb561010) (.slice Ao60 y561019.length co60) y561019) := ⟨by (with_reducible repeat (first | apply Kd.N_alloc | apply Kd.N_drewN | apply Kd.N_drew)); exact Kd.N_mono (Kd.N_far (p := ⟨gb561010, 1, none⟩) (Kd.N_mono HO561021.out (fun k_ hk => (⟨hk, hk.2.2.2.2⟩ : _ ∧ k_ ≠ gb561010))) (fun _ hk => hk.2) (.slice Ao60 y561019.length co60)) (fun _ hk => ⟨hk.1.1, ⟨hk.1.2.1, ⟨hk.1.2.2.1, ⟨hk.1.2.2.2.1, hk.1.2.2.2.2⟩⟩⟩⟩)⟩
               have n3_ : Aside0 ((w58.setCell ⟨gb561010, 1, none⟩ (.slice Ao60 y561019.length co60)).heap[gb561001]? = some (.cells #[.slice (some ad561011) l0_0.length c0_0, .slice A0_1 l0_1.length c0_1] 28 (0, 0))) := ⟨by (with_reducible repeat (first | refine blk_drewN ?_ _ | refine blk_drew ?_ | refine blk_alloc ?_ _)); refine blk_far ?_ NB561001_561010.out _; (with_reducible repeat (first | refine blk_drewN ?_ _ | refine blk_drew ?_ | refine blk_alloc ?_ _)); exact BK561001.out⟩
               have n4_ : Aside0 ((w58.setCell ⟨gb561010, 1, none⟩ (.slice Ao60 y561019.length co60)).heap[gb561002]? = some (.cells #[.slice none 0 0, .slice none 0 0] 28 (0, 0))) := ⟨by (with_reducible repeat (first | refine blk_drewN ?_ _ | refine blk_drew ?_ | refine blk_alloc ?_ _)); refine blk_far ?_ NB561002_561010.out _; (with_reducible repeat (first | refine blk_drewN ?_ _ | refine blk_drew ?_ | refine blk_alloc ?_ _)); exact BK561002.out⟩
               have n5_ : Aside0 ((w58.setCell ⟨gb561010, 1, none⟩ (.slice Ao60 y561019.length co60)).heap[gb561010]? = some (.cells #[.slice Ao46 t561004.length co46, .slice Ao60 y561019.length co60] 28 (0, 0))) := ⟨by (with_reducible repeat (first | refine blk_drewN ?_ _ | refine blk_drew ?_ | refine blk_alloc ?_ _)); refine blk_put (cs := #[.slice Ao46 t561004.length co46, .slice Ao50 t561007.length co50]) ?_ 1 _ rfl; (with_reducible repeat (first | refine blk_drewN ?_ _ | refine blk_drew ?_ | refine blk_alloc ?_ _)); exact BK561010.out⟩
               have n6_ : Aside0 (Below w.heap.size w (w58.setCell ⟨gb561010, 1, none⟩ (.slice Ao60 y561019.length co60))) := ⟨by repeat (first | (with_reducible first | exact HB.out | apply below_alloc | apply pw_below_drewN | apply below_drew1 | refine below_set ?_ GE561001.out | refine below_set ?_ GE561002.out | refine below_set ?_ GE561010.out) | exact HB.out)⟩
               (try clear HO561006)
               (try clear HO561018)
               (try clear HO561021)
               (try clear BK561001)
               (try clear BK561002)
               (try clear BK561010)
               (try clear HB)
               generalize (w58.setCell ⟨gb561010, 1, none⟩ (.slice Ao60 y561019.length co60)) = w62 at n0_ n1_ n2_ n3_ n4_ n5_ n6_ ⊢
               have HO561006 := n0_
               have HO561018 := n1_
               have HO561021 := n2_
               have BK561001 := n3_
               have BK561002 := n4_
               have BK561010 := n5_
               have HB := n6_
               clear n0_ n1_ n2_ n3_ n4_ n5_ n6_
               have n0_ := Aside0.mk (Kd.R_drew HO561006.out)
               have n1_ := Aside0.mk (Kd.N_drew HO561018.out)
               have n2_ := Aside0.mk (Kd.N_drew HO561021.out)
               have n3_ := Aside0.mk (blk_drew BK561001.out)
               have n4_ := Aside0.mk (blk_drew BK561002.out)
               have n5_ := Aside0.mk (blk_drew BK561010.out)
               have n6_ := Aside0.mk (below_drew1 HB.out)
               clear HO561006
               clear HO561018
               clear HO561021
               clear BK561001
               clear BK561002
               clear BK561010
               clear HB
               have HO561006 := n0_
               have HO561018 := n1_
               have HO561021 := n2_
               have BK561001 := n3_
               have BK561002 := n4_
               have BK561010 := n5_
               have HB := n6_
               clear n0_ n1_ n2_ n3_ n4_ n5_ n6_
               obtain ⟨i064, hi064, _, hsz64, _⟩ := info_parts info2
               obtain ⟨hcut64, hA64, hC64⟩ := print_take_of (P := Try.prog) (Value.int .i64) 0 22 2 .i64 Try.underlying22 hi064 hsz64 (some ad561011) c0_0 l0_0 a1 (of_decide_eq_true (by first | (with_reducible assumption) | assumption)) (of_decide_eq_true (by first | (with_reducible assumption) | assumption)) HC0_0.out
               have HR561022 := Aside0.mk (Kd.C_of_reads (h1 := fun _ => rfl) (hA64 _ (Kd.reads_of_C HR0_0.out)))
               have HC561022 := Aside0.mk hC64
               clear hA64 hC64 hi064 hsz64
               obtain ⟨i065, hi065, _, hsz65, _⟩ := info_parts info2
               obtain ⟨A65, hcut65, hA65, hC65⟩ := print_drop_of (P := Try.prog) (Value.int .i64) 0 22 2 .i64 Try.underlying22 hi065 hsz65 (some ad561011) c0_0 l0_0 (ji38) (of_decide_eq_true (by first | (with_reducible assumption) | assumption)) (of_decide_eq_true (by first | (with_reducible assumption) | assumption)) HC0_0.out
               have HR561032 := Aside0.mk (Kd.C_of_reads (h1 := fun _ => rfl) (hA65 _ (Kd.reads_of_C HR0_0.out)))
               have HC561032 := Aside0.mk hC65
               clear hA65 hC65 hi065 hsz65
               refine start_ (n := 16) (S := fun w' => w'.cell? ⟨gb561001, 0, none⟩ = some (.slice (some ad561011) l0_0.length c0_0) ∧ w'.cell? ⟨gb561001, 1, none⟩ = some (.slice A0_1 l0_1.length c0_1)) (ds := []) #[false, false, false, false, false, false, false, false, false, false, false, false, false, false, false, false] (by kernel_rfl) rfl rfl ⟨(blk_cell BK561001.out 0).trans rfl, (blk_cell BK561001.out 1).trans rfl⟩ (fun hHeld => ?_); refine with_tabW spec_ForkLegs.tab16 spec_ForkLegs.bits16 (fun HT_ HW_ => ?_)
               generalize w62.drew = w63 at HO561006 HO561018 HO561021 BK561001 BK561002 BK561010 HB HR561022 HR561032 hHeld ⊢
               refine pure_ (i := 0) (N := some 65) (v := ?_) (a' := ?_) #[true, false, false, false, false, false, false, false, false, false, false, false, false, false, false, false] rfl rfl (any_of HT_.out (by kernel_rfl)) (fun _ _ _ h => h) (Or.inl ⟨by rfl, ?_⟩) ?_ ?_
               rotate_left
               ·intro w'
                go_simp
                with_reducible rfl
               rotate_left
               ·simp only [Act.put, List.setIfInBounds_toArray, List.set_cons_zero, List.set_cons_succ, i64_w, i32_w]
                rfl
               refine pure_ (i := 2) (N := some 67) (v := ?_) (a' := ?_) #[true, false, true, false, false, false, false, false, false, false, false, false, false, false, false, false] rfl rfl (any_of HT_.out (by kernel_rfl)) (fun _ _ _ h => h) (Or.inl ⟨by rfl, ?_⟩) ?_ ?_
               rotate_left
               ·intro w'
                go_simp
                with_reducible rfl
               rotate_left
               ·simp only [Act.put, List.setIfInBounds_toArray, List.set_cons_zero, List.set_cons_succ, i64_w, i32_w]
                rfl
               refine pure_ (i := 5) (N := some 70) (v := ?_) (a' := ?_) #[true, false, true, false, false, true, false, false, false, false, false, false, false, false, false, false] rfl rfl (any_of HT_.out (by kernel_rfl)) (fun _ _ _ h => h) (Or.inl ⟨by rfl, ?_⟩) ?_ ?_
               rotate_left
               ·intro w'
                go_simp
                with_reducible rfl
               rotate_left
               ·simp only [Act.put, List.setIfInBounds_toArray, List.set_cons_zero, List.set_cons_succ, i64_w, i32_w]
                rfl
               refine pure_ (i := 8) (N := some 73) (v := ?_) (a' := ?_) #[true, false, true, false, false, true, false, false, true, false, false, false, false, false, false, false] rfl rfl (any_of HT_.out (by kernel_rfl)) (fun _ _ _ h => h) (Or.inl ⟨by rfl, ?_⟩) ?_ ?_
               rotate_left
               ·intro w'
                go_simp
                with_reducible rfl
               rotate_left
               ·simp only [Act.put, List.setIfInBounds_toArray, List.set_cons_zero, List.set_cons_succ, i64_w, i32_w]
                rfl
               refine pure_ (i := 10) (N := some 75) (v := ?_) (a' := ?_) #[true, false, true, false, false, true, false, false, true, false, true, false, false, false, false, false] rfl rfl (any_of HT_.out (by kernel_rfl)) (fun _ _ _ h => h) (Or.inl ⟨by rfl, ?_⟩) ?_ ?_
               rotate_left
               ·intro w'
                go_simp
                with_reducible rfl
               rotate_left
               ·simp only [Act.put, List.setIfInBounds_toArray, List.set_cons_zero, List.set_cons_succ, i64_w, i32_w]
                rfl
               refine pure_ (i := 11) (N := some 76) (v := ?_) (a' := ?_) #[true, false, true, false, false, true, false, false, true, false, true, true, false, false, false, false] rfl rfl (any_of HT_.out (by kernel_rfl)) (fun _ _ _ h => h) (Or.inl ⟨by rfl, ?_⟩) ?_ ?_
               rotate_left
               ·intro w'
                go_simp
                with_reducible rfl
               rotate_left
               ·simp only [Act.put, List.setIfInBounds_toArray, List.set_cons_zero, List.set_cons_succ, i64_w, i32_w]
                rfl
               refine take_ (i := 1) (N := some 66) (v := ?_) (a' := ?_) #[true, true, true, false, false, true, false, false, true, false, true, true, false, false, false, false] rfl rfl (take_ofW HT_.out HW_.out (by kernel_rfl)) (fun _ _ _ h => h) (Or.inl ⟨by rfl, ?_⟩) hHeld ?_ ?_
               rotate_left
               ·rintro w' ⟨s0, s1⟩
                go_simp
                with_reducible rfl
               rotate_left
               ·simp only [Act.put, List.setIfInBounds_toArray, List.set_cons_zero, List.set_cons_succ, i64_w, i32_w]
                rfl
               refine pure_ (i := 3) (N := some 68) (v := ?_) (a' := ?_) #[true, true, true, true, false, true, false, false, true, false, true, true, false, false, false, false] rfl rfl (any_of HT_.out (by kernel_rfl)) (fun _ _ _ h => h) (Or.inl ⟨by rfl, ?_⟩) ?_ ?_
               rotate_left
               ·intro w'
                go_simp
                with_reducible rfl
               rotate_left
               ·simp only [Act.put, List.setIfInBounds_toArray, List.set_cons_zero, List.set_cons_succ, i64_w, i32_w]
                rfl
               refine take_ (i := 9) (N := some 74) (v := ?_) (a' := ?_) #[true, true, true, true, false, true, false, false, true, true, true, true, false, false, false, false] rfl rfl (take_ofW HT_.out HW_.out (by kernel_rfl)) (fun _ _ _ h => h) (Or.inl ⟨by rfl, ?_⟩) hHeld ?_ ?_
               rotate_left
               ·rintro w' ⟨s0, s1⟩
                go_simp
                with_reducible rfl
               rotate_left
               ·simp only [Act.put, List.setIfInBounds_toArray, List.set_cons_zero, List.set_cons_succ, i64_w, i32_w]
                rfl
               refine pure_ (i := 12) (N := some 77) (v := ?_) (a' := ?_) #[true, true, true, true, false, true, false, false, true, true, true, true, true, false, false, false] rfl rfl (any_of HT_.out (by kernel_rfl)) (fun _ _ _ h => h) (Or.inl ⟨by rfl, ?_⟩) ?_ ?_
               rotate_left
               ·intro w'
                go_simp
                with_reducible rfl
               rotate_left
               ·simp only [Act.put, List.setIfInBounds_toArray, List.set_cons_zero, List.set_cons_succ, i64_w, i32_w]
                rfl
               refine join_ (σ := Value × Value) 4 #[true, true, true, true, true, true, true, false, true, true, true, true, true, false, false, false] (fun s_ => [(69, s_.1), (71, s_.2)]) (fun s_ w' => (w'.cell? ⟨gb561001, 0, none⟩ = some (.slice (some ad561011) l0_0.length c0_0) ∧ w'.cell? ⟨gb561001, 1, none⟩ = some (.slice A0_1 l0_1.length c0_1)) ∧ (Kd.R (Kd.int .i64) 2 w' w.heap.size (fun k_ => (w.heap.size ≤ k_) ∧ some k_ ≠ (s_.1 : Value).ownBlock ∧ some k_ ≠ (s_.2 : Value).ownBlock) (.slice Ao46 t561004.length co46) t561004) ∧ (Kd.N (Kd.slice 2 (Kd.int .i64)) 22 w' w.heap.size (fun k_ => (w.heap.size ≤ k_) ∧ some k_ ≠ (.slice Ao46 t561004.length co46 : Value).ownBlock ∧ some k_ ≠ (.slice Ao60 y561019.length co60 : Value).ownBlock ∧ some k_ ≠ (s_.1 : Value).ownBlock ∧ some k_ ≠ (s_.2 : Value).ownBlock ∧ k_ ≠ gb561001 ∧ k_ ≠ gb561002 ∧ k_ ≠ gb561010) (.slice Ao59 y561016.length co59) y561016) ∧ (Kd.N (Kd.slice 2 (Kd.int .i64)) 22 w' w.heap.size (fun k_ => (w.heap.size ≤ k_) ∧ some k_ ≠ (.slice Ao46 t561004.length co46 : Value).ownBlock ∧ some k_ ≠ (s_.1 : Value).ownBlock ∧ some k_ ≠ (s_.2 : Value).ownBlock ∧ k_ ≠ gb561001 ∧ k_ ≠ gb561002 ∧ k_ ≠ gb561010) (.slice Ao60 y561019.length co60) y561019) ∧ (Kd.R (Kd.int .i64) 2 w' w.heap.size (fun k_ => (w.heap.size ≤ k_) ∧ some k_ ≠ (.slice Ao46 t561004.length co46 : Value).ownBlock ∧ some k_ ≠ (s_.2 : Value).ownBlock) s_.1 t561023) ∧ (Kd.R (Kd.int .i64) 2 w' w.heap.size (fun k_ => (w.heap.size ≤ k_) ∧ some k_ ≠ (.slice Ao46 t561004.length co46 : Value).ownBlock ∧ some k_ ≠ (s_.1 : Value).ownBlock) s_.2 y561026) ∧ (w'.heap[gb561001]? = some (.cells #[.slice (some ad561011) l0_0.length c0_0, .slice A0_1 l0_1.length c0_1] 28 (0, 0))) ∧ (w'.heap[gb561002]? = some (.cells #[.slice none 0 0, .slice none 0 0] 28 (0, 0))) ∧ (w'.heap[gb561010]? = some (.cells #[.slice Ao46 t561004.length co46, .slice Ao60 y561019.length co60] 28 (0, 0))) ∧ (Below w.heap.size w w')) ?_ ?_
               rotate_left
               ·intro hCont
                refine two_ (i := 4) (j := 6) (Ni := some 69) (Nj := some 71) #[true, true, true, true, true, true, false, false, true, true, true, true, true, false, false, false] #[true, true, true, true, false, true, true, false, true, true, true, true, true, false, false, false] rfl rfl rfl rfl (two_of HT_.out (by kernel_rfl)) (by decide) (by decide) (fun K hK => ?_) (fun K hK => ?_)
                ·skip
                 refine goes_ Try.func137 (by kernel_rfl) rfl #[.slice (some ad561011) (l0_0.take (a1 : Int).toNat).length c0_0] (by rfl) rfl rfl (by (try simp only [List.map_toArray, List.map_cons, List.map_nil]); first | done | (rw [show (l0_0.take (a1 : Int).toNat).length = a1.toNat from (by rw [List.length_take]; have h_ : (a1 : Int) ≤ (l0_0.length : Int) := of_decide_eq_true (by first | (with_reducible assumption) | assumption); omega)] <;> rfl) | rfl | (simp only [List.length_drop, List.length_take]; rfl)) ?_
                 with_reducible refine (spec_l01Own.calls _ _ (l0_0.take (a1 : Int).toNat) t561023 _ ?side1 ?side2 A36.out).mono ?_
                 (case side1 => repeat (first | exact (Kd.C_below HR561022.out HB.out) | (with_reducible refine Kd.C_alloc ?_ _) | (with_reducible refine Kd.C_drewN ?_ _) | (with_reducible refine Kd.C_drew ?_)))
                 (case side2 => exact HC561022.out)
                 rintro e w66 ⟨v561024, rfl, ho0, hb⟩
                 refine ⟨_, rfl, ?_⟩
                 have n0_ := Aside0.mk (Kd.R_elder' (by (with_reducible repeat (first | apply Kd.R_alloc | apply Kd.R_drewN | apply Kd.R_drew)); exact HO561006.out) (Kd.R_base ho0) hb)
                 have n1_ := Aside0.mk (Kd.N_elder' (by (with_reducible repeat (first | apply Kd.N_alloc | apply Kd.N_drewN | apply Kd.N_drew)); exact HO561018.out) (Kd.R_base ho0) hb)
                 have n2_ := Aside0.mk (Kd.N_elder' (by (with_reducible repeat (first | apply Kd.N_alloc | apply Kd.N_drewN | apply Kd.N_drew)); exact HO561021.out) (Kd.R_base ho0) hb)
                 have n3_ := Aside0.mk (Kd.R_lower (Kd.R_new' (Kd.R_newM (M := fun k_ => (w.heap.size ≤ k_)) ho0 (below_size (by repeat (first | (with_reducible first | exact HB.out | apply below_alloc | apply pw_below_drewN | apply below_drew1 | refine below_set ?_ GE561001.out | refine below_set ?_ GE561002.out | refine below_set ?_ GE561010.out) | exact HB.out))) (fun k_ h_ => h_)) (Kd.R_lt (by (with_reducible repeat (first | apply Kd.R_alloc | apply Kd.R_drewN | apply Kd.R_drew)); exact HO561006.out))) (below_size (by repeat (first | (with_reducible first | exact HB.out | apply below_alloc | apply pw_below_drewN | apply below_drew1 | refine below_set ?_ GE561001.out | refine below_set ?_ GE561002.out | refine below_set ?_ GE561010.out) | exact HB.out))))
                 have n4_ := Aside0.mk (blk_below (g := gb561001) (o := .cells #[.slice (some ad561011) l0_0.length c0_0, .slice A0_1 l0_1.length c0_1] 28 (0, 0)) (by (with_reducible repeat (first | refine blk_drewN ?_ _ | refine blk_drew ?_ | refine blk_alloc ?_ _)); exact BK561001.out) hb)
                 have n5_ := Aside0.mk (blk_below (g := gb561002) (o := .cells #[.slice none 0 0, .slice none 0 0] 28 (0, 0)) (by (with_reducible repeat (first | refine blk_drewN ?_ _ | refine blk_drew ?_ | refine blk_alloc ?_ _)); exact BK561002.out) hb)
                 have n6_ := Aside0.mk (blk_below (g := gb561010) (o := .cells #[.slice Ao46 t561004.length co46, .slice Ao60 y561019.length co60] 28 (0, 0)) (by (with_reducible repeat (first | refine blk_drewN ?_ _ | refine blk_drew ?_ | refine blk_alloc ?_ _)); exact BK561010.out) hb)
                 have n7_ := Aside0.mk (below_step (by repeat (first | (with_reducible first | exact HB.out | apply below_alloc | apply pw_below_drewN | apply below_drew1 | refine below_set ?_ GE561001.out | refine below_set ?_ GE561002.out | refine below_set ?_ GE561010.out) | exact HB.out)) hb)
                 clear HO561006
                 clear HO561018
                 clear HO561021
                 clear BK561001
                 clear BK561002
                 clear BK561010
                 clear HB
                 have HO561006 := n0_
                 have HO561018 := n1_
                 have HO561021 := n2_
                 have HO561025 := n3_
                 have BK561001 := n4_
                 have BK561002 := n5_
                 have BK561010 := n6_
                 have HB := n7_
                 clear n0_ n1_ n2_ n3_ n4_ n5_ n6_ n7_
                 (try clear hb)
                 (try clear hb2)
                 (try clear hk)
                 (try clear hi)
                 (try clear ho0)
                 refine hK.out _ _ ⟨(blk_cell BK561001.out 0).trans rfl, (blk_cell BK561001.out 1).trans rfl⟩ (fun hHeld => ?_)
                 clear hK K
                 refine norm_ (a' := ?_) ?_ ?_
                 rotate_left
                 ·show Act.put _ (some 69) _ = _
                  simp only [Act.put, List.setIfInBounds_toArray, List.set_cons_zero, List.set_cons_succ, i64_w, i32_w]
                  rfl
                 refine one_ (i := 6) (N := some 71) #[true, true, true, true, true, true, true, false, true, true, true, true, true, false, false, false] rfl rfl (one_of HT_.out (by kernel_rfl)) (by decide) (fun K hK => ?_)
                 refine Kd.R_lit_step (Kd.int .i64) _ 2 ?hg (N := 71) ?hd (xs := ([x7_1] : List Int)) (inner := [.int .i64 x7_1]) (ok := fun _ => True) (okp := fun _ => True) ?hr ?hp (fun _ hk => hk) trivial (Below.refl _ _) (Nat.le_refl _) (by simp) ?_; (case hd => rfl); (case hg => rfl); (case hr => first | (go_simp; done) | (go_simp; rfl)); (case hp => exact (Reps.one (show Kd.M (Kd.int .i64) _ _ _ x7_1 [.int .i64 x7_1] from rfl) (Reps.none _ _)))
                 intro v561027 w67 ho68 hb hg_ hnew_
                 clear hg_ hnew_
                 (first | rw [← Ny561026.out] at ho68 | (simp only [Int.reduceToNat] at ho68; rw [← Ny561026.out] at ho68))
                 have n0_ := Aside0.mk (Kd.R_elder' (by (with_reducible repeat (first | apply Kd.R_alloc | apply Kd.R_drewN | apply Kd.R_drew)); exact HO561006.out) (Kd.R_base ho68) hb)
                 have n1_ := Aside0.mk (Kd.N_elder' (by (with_reducible repeat (first | apply Kd.N_alloc | apply Kd.N_drewN | apply Kd.N_drew)); exact HO561018.out) (Kd.R_base ho68) hb)
                 have n2_ := Aside0.mk (Kd.N_elder' (by (with_reducible repeat (first | apply Kd.N_alloc | apply Kd.N_drewN | apply Kd.N_drew)); exact HO561021.out) (Kd.R_base ho68) hb)
                 have n3_ := Aside0.mk (Kd.R_elder' (by (with_reducible repeat (first | apply Kd.R_alloc | apply Kd.R_drewN | apply Kd.R_drew)); exact HO561025.out) (Kd.R_base ho68) hb)
                 have n4_ := Aside0.mk (Kd.R_lower (Kd.R_new' (Kd.R_new' (Kd.R_newM (M := fun k_ => (w.heap.size ≤ k_)) ho68 (below_size (by repeat (first | (with_reducible first | exact HB.out | apply below_alloc | apply pw_below_drewN | apply below_drew1 | refine below_set ?_ GE561001.out | refine below_set ?_ GE561002.out | refine below_set ?_ GE561010.out) | exact HB.out))) (fun k_ h_ => h_)) (Kd.R_lt (by (with_reducible repeat (first | apply Kd.R_alloc | apply Kd.R_drewN | apply Kd.R_drew)); exact HO561006.out))) (Kd.R_lt (by (with_reducible repeat (first | apply Kd.R_alloc | apply Kd.R_drewN | apply Kd.R_drew)); exact HO561025.out))) (below_size (by repeat (first | (with_reducible first | exact HB.out | apply below_alloc | apply pw_below_drewN | apply below_drew1 | refine below_set ?_ GE561001.out | refine below_set ?_ GE561002.out | refine below_set ?_ GE561010.out) | exact HB.out))))
                 have n5_ := Aside0.mk (blk_below (g := gb561001) (o := .cells #[.slice (some ad561011) l0_0.length c0_0, .slice A0_1 l0_1.length c0_1] 28 (0, 0)) (by (with_reducible repeat (first | refine blk_drewN ?_ _ | refine blk_drew ?_ | refine blk_alloc ?_ _)); exact BK561001.out) hb)
                 have n6_ := Aside0.mk (blk_below (g := gb561002) (o := .cells #[.slice none 0 0, .slice none 0 0] 28 (0, 0)) (by (with_reducible repeat (first | refine blk_drewN ?_ _ | refine blk_drew ?_ | refine blk_alloc ?_ _)); exact BK561002.out) hb)
                 have n7_ := Aside0.mk (blk_below (g := gb561010) (o := .cells #[.slice Ao46 t561004.length co46, .slice Ao60 y561019.length co60] 28 (0, 0)) (by (with_reducible repeat (first | refine blk_drewN ?_ _ | refine blk_drew ?_ | refine blk_alloc ?_ _)); exact BK561010.out) hb)
                 have n8_ := Aside0.mk (below_step (by repeat (first | (with_reducible first | exact HB.out | apply below_alloc | apply pw_below_drewN | apply below_drew1 | refine below_set ?_ GE561001.out | refine below_set ?_ GE561002.out | refine below_set ?_ GE561010.out) | exact HB.out)) hb)
                 clear HO561006
                 clear HO561018
                 clear HO561021
                 clear HO561025
                 clear BK561001
                 clear BK561002
                 clear BK561010
                 clear HB
                 have HO561006 := n0_
                 have HO561018 := n1_
                 have HO561021 := n2_
                 have HO561025 := n3_
                 have HO561028 := n4_
                 have BK561001 := n5_
                 have BK561002 := n6_
                 have BK561010 := n7_
                 have HB := n8_
                 clear n0_ n1_ n2_ n3_ n4_ n5_ n6_ n7_ n8_
                 clear hb ho68
                 refine hK.out _ _ ⟨(blk_cell BK561001.out 0).trans rfl, (blk_cell BK561001.out 1).trans rfl⟩ (fun hHeld => ?_)
                 clear hK K
                 refine norm_ (a' := ?_) ?_ ?_
                 rotate_left
                 ·show Act.put _ (some 71) _ = _
                  simp only [Act.put, List.setIfInBounds_toArray, List.set_cons_zero, List.set_cons_succ, i64_w, i32_w]
                  rfl
                 exact norm_ (by simp only [putAll, Act.put, List.setIfInBounds_toArray, List.set_cons_zero, List.set_cons_succ]) (hCont (v561024, v561027) _ ⟨hHeld, (by (with_reducible repeat (first | apply Kd.R_alloc | apply Kd.R_drewN | apply Kd.R_drew)); exact Kd.R_mono HO561006.out (fun _ hk => ⟨hk.1.1, ⟨hk.1.2, hk.2⟩⟩)), (by (with_reducible repeat (first | apply Kd.N_alloc | apply Kd.N_drewN | apply Kd.N_drew)); exact Kd.N_mono HO561018.out (fun _ hk => ⟨hk.1.1.1, ⟨hk.1.1.2.1, ⟨hk.1.1.2.2.1, ⟨hk.1.2, ⟨hk.2, ⟨hk.1.1.2.2.2.1, ⟨hk.1.1.2.2.2.2.1, hk.1.1.2.2.2.2.2⟩⟩⟩⟩⟩⟩⟩)), (by (with_reducible repeat (first | apply Kd.N_alloc | apply Kd.N_drewN | apply Kd.N_drew)); exact Kd.N_mono HO561021.out (fun _ hk => ⟨hk.1.1.1, ⟨hk.1.1.2.1, ⟨hk.1.2, ⟨hk.2, ⟨hk.1.1.2.2.1, ⟨hk.1.1.2.2.2.1, hk.1.1.2.2.2.2⟩⟩⟩⟩⟩⟩)), (by (with_reducible repeat (first | apply Kd.R_alloc | apply Kd.R_drewN | apply Kd.R_drew)); exact Kd.R_mono HO561025.out (fun _ hk => ⟨hk.1.1.1, ⟨hk.1.2, hk.2⟩⟩)), (by (with_reducible repeat (first | apply Kd.R_alloc | apply Kd.R_drewN | apply Kd.R_drew)); exact Kd.R_mono HO561028.out (fun _ hk => ⟨hk.1.1.1, ⟨hk.1.2, hk.2⟩⟩)), (by (with_reducible repeat (first | refine blk_drewN ?_ _ | refine blk_drew ?_ | refine blk_alloc ?_ _)); exact BK561001.out), (by (with_reducible repeat (first | refine blk_drewN ?_ _ | refine blk_drew ?_ | refine blk_alloc ?_ _)); exact BK561002.out), (by (with_reducible repeat (first | refine blk_drewN ?_ _ | refine blk_drew ?_ | refine blk_alloc ?_ _)); exact BK561010.out), (by repeat (first | (with_reducible first | exact HB.out | apply below_alloc | apply pw_below_drewN | apply below_drew1 | refine below_set ?_ GE561001.out | refine below_set ?_ GE561002.out | refine below_set ?_ GE561010.out) | exact HB.out))⟩)
                ·skip
                 refine Kd.R_lit_step (Kd.int .i64) _ 2 ?hg (N := 71) ?hd (xs := ([x7_1] : List Int)) (inner := [.int .i64 x7_1]) (ok := fun _ => True) (okp := fun _ => True) ?hr ?hp (fun _ hk => hk) trivial (Below.refl _ _) (Nat.le_refl _) (by simp) ?_; (case hd => rfl); (case hg => rfl); (case hr => first | (go_simp; done) | (go_simp; rfl)); (case hp => exact (Reps.one (show Kd.M (Kd.int .i64) _ _ _ x7_1 [.int .i64 x7_1] from rfl) (Reps.none _ _)))
                 intro v561027 w66 ho67 hb hg_ hnew_
                 clear hg_ hnew_
                 (first | rw [← Ny561026.out] at ho67 | (simp only [Int.reduceToNat] at ho67; rw [← Ny561026.out] at ho67))
                 have n0_ := Aside0.mk (Kd.R_elder' (by (with_reducible repeat (first | apply Kd.R_alloc | apply Kd.R_drewN | apply Kd.R_drew)); exact HO561006.out) (Kd.R_base ho67) hb)
                 have n1_ := Aside0.mk (Kd.N_elder' (by (with_reducible repeat (first | apply Kd.N_alloc | apply Kd.N_drewN | apply Kd.N_drew)); exact HO561018.out) (Kd.R_base ho67) hb)
                 have n2_ := Aside0.mk (Kd.N_elder' (by (with_reducible repeat (first | apply Kd.N_alloc | apply Kd.N_drewN | apply Kd.N_drew)); exact HO561021.out) (Kd.R_base ho67) hb)
                 have n3_ := Aside0.mk (Kd.R_lower (Kd.R_new' (Kd.R_newM (M := fun k_ => (w.heap.size ≤ k_)) ho67 (below_size (by repeat (first | (with_reducible first | exact HB.out | apply below_alloc | apply pw_below_drewN | apply below_drew1 | refine below_set ?_ GE561001.out | refine below_set ?_ GE561002.out | refine below_set ?_ GE561010.out) | exact HB.out))) (fun k_ h_ => h_)) (Kd.R_lt (by (with_reducible repeat (first | apply Kd.R_alloc | apply Kd.R_drewN | apply Kd.R_drew)); exact HO561006.out))) (below_size (by repeat (first | (with_reducible first | exact HB.out | apply below_alloc | apply pw_below_drewN | apply below_drew1 | refine below_set ?_ GE561001.out | refine below_set ?_ GE561002.out | refine below_set ?_ GE561010.out) | exact HB.out))))
                 have n4_ := Aside0.mk (blk_below (g := gb561001) (o := .cells #[.slice (some ad561011) l0_0.length c0_0, .slice A0_1 l0_1.length c0_1] 28 (0, 0)) (by (with_reducible repeat (first | refine blk_drewN ?_ _ | refine blk_drew ?_ | refine blk_alloc ?_ _)); exact BK561001.out) hb)
                 have n5_ := Aside0.mk (blk_below (g := gb561002) (o := .cells #[.slice none 0 0, .slice none 0 0] 28 (0, 0)) (by (with_reducible repeat (first | refine blk_drewN ?_ _ | refine blk_drew ?_ | refine blk_alloc ?_ _)); exact BK561002.out) hb)
                 have n6_ := Aside0.mk (blk_below (g := gb561010) (o := .cells #[.slice Ao46 t561004.length co46, .slice Ao60 y561019.length co60] 28 (0, 0)) (by (with_reducible repeat (first | refine blk_drewN ?_ _ | refine blk_drew ?_ | refine blk_alloc ?_ _)); exact BK561010.out) hb)
                 have n7_ := Aside0.mk (below_step (by repeat (first | (with_reducible first | exact HB.out | apply below_alloc | apply pw_below_drewN | apply below_drew1 | refine below_set ?_ GE561001.out | refine below_set ?_ GE561002.out | refine below_set ?_ GE561010.out) | exact HB.out)) hb)
                 clear HO561006
                 clear HO561018
                 clear HO561021
                 clear BK561001
                 clear BK561002
                 clear BK561010
                 clear HB
                 have HO561006 := n0_
                 have HO561018 := n1_
                 have HO561021 := n2_
                 have HO561028 := n3_
                 have BK561001 := n4_
                 have BK561002 := n5_
                 have BK561010 := n6_
                 have HB := n7_
                 clear n0_ n1_ n2_ n3_ n4_ n5_ n6_ n7_
                 clear hb ho67
                 refine hK.out _ _ ⟨(blk_cell BK561001.out 0).trans rfl, (blk_cell BK561001.out 1).trans rfl⟩ (fun hHeld => ?_)
                 clear hK K
                 refine norm_ (a' := ?_) ?_ ?_
                 rotate_left
                 ·show Act.put _ (some 71) _ = _
                  simp only [Act.put, List.setIfInBounds_toArray, List.set_cons_zero, List.set_cons_succ, i64_w, i32_w]
                  rfl
                 refine one_ (i := 4) (N := some 69) #[true, true, true, true, true, true, true, false, true, true, true, true, true, false, false, false] rfl rfl (one_of HT_.out (by kernel_rfl)) (by decide) (fun K hK => ?_)
                 refine goes_ Try.func137 (by kernel_rfl) rfl #[.slice (some ad561011) (l0_0.take (a1 : Int).toNat).length c0_0] (by rfl) rfl rfl (by (try simp only [List.map_toArray, List.map_cons, List.map_nil]); first | done | (rw [show (l0_0.take (a1 : Int).toNat).length = a1.toNat from (by rw [List.length_take]; have h_ : (a1 : Int) ≤ (l0_0.length : Int) := of_decide_eq_true (by first | (with_reducible assumption) | assumption); omega)] <;> rfl) | rfl | (simp only [List.length_drop, List.length_take]; rfl)) ?_
                 with_reducible refine (spec_l01Own.calls _ _ (l0_0.take (a1 : Int).toNat) t561023 _ ?side1 ?side2 A36.out).mono ?_
                 (case side1 => repeat (first | exact (Kd.C_below HR561022.out HB.out) | (with_reducible refine Kd.C_alloc ?_ _) | (with_reducible refine Kd.C_drewN ?_ _) | (with_reducible refine Kd.C_drew ?_)))
                 (case side2 => exact HC561022.out)
                 rintro e w68 ⟨v561024, rfl, ho0, hb⟩
                 refine ⟨_, rfl, ?_⟩
                 have n0_ := Aside0.mk (Kd.R_elder' (by (with_reducible repeat (first | apply Kd.R_alloc | apply Kd.R_drewN | apply Kd.R_drew)); exact HO561006.out) (Kd.R_base ho0) hb)
                 have n1_ := Aside0.mk (Kd.N_elder' (by (with_reducible repeat (first | apply Kd.N_alloc | apply Kd.N_drewN | apply Kd.N_drew)); exact HO561018.out) (Kd.R_base ho0) hb)
                 have n2_ := Aside0.mk (Kd.N_elder' (by (with_reducible repeat (first | apply Kd.N_alloc | apply Kd.N_drewN | apply Kd.N_drew)); exact HO561021.out) (Kd.R_base ho0) hb)
                 have n3_ := Aside0.mk (Kd.R_elder' (by (with_reducible repeat (first | apply Kd.R_alloc | apply Kd.R_drewN | apply Kd.R_drew)); exact HO561028.out) (Kd.R_base ho0) hb)
                 have n4_ := Aside0.mk (Kd.R_lower (Kd.R_new' (Kd.R_new' (Kd.R_newM (M := fun k_ => (w.heap.size ≤ k_)) ho0 (below_size (by repeat (first | (with_reducible first | exact HB.out | apply below_alloc | apply pw_below_drewN | apply below_drew1 | refine below_set ?_ GE561001.out | refine below_set ?_ GE561002.out | refine below_set ?_ GE561010.out) | exact HB.out))) (fun k_ h_ => h_)) (Kd.R_lt (by (with_reducible repeat (first | apply Kd.R_alloc | apply Kd.R_drewN | apply Kd.R_drew)); exact HO561006.out))) (Kd.R_lt (by (with_reducible repeat (first | apply Kd.R_alloc | apply Kd.R_drewN | apply Kd.R_drew)); exact HO561028.out))) (below_size (by repeat (first | (with_reducible first | exact HB.out | apply below_alloc | apply pw_below_drewN | apply below_drew1 | refine below_set ?_ GE561001.out | refine below_set ?_ GE561002.out | refine below_set ?_ GE561010.out) | exact HB.out))))
                 have n5_ := Aside0.mk (blk_below (g := gb561001) (o := .cells #[.slice (some ad561011) l0_0.length c0_0, .slice A0_1 l0_1.length c0_1] 28 (0, 0)) (by (with_reducible repeat (first | refine blk_drewN ?_ _ | refine blk_drew ?_ | refine blk_alloc ?_ _)); exact BK561001.out) hb)
                 have n6_ := Aside0.mk (blk_below (g := gb561002) (o := .cells #[.slice none 0 0, .slice none 0 0] 28 (0, 0)) (by (with_reducible repeat (first | refine blk_drewN ?_ _ | refine blk_drew ?_ | refine blk_alloc ?_ _)); exact BK561002.out) hb)
                 have n7_ := Aside0.mk (blk_below (g := gb561010) (o := .cells #[.slice Ao46 t561004.length co46, .slice Ao60 y561019.length co60] 28 (0, 0)) (by (with_reducible repeat (first | refine blk_drewN ?_ _ | refine blk_drew ?_ | refine blk_alloc ?_ _)); exact BK561010.out) hb)
                 have n8_ := Aside0.mk (below_step (by repeat (first | (with_reducible first | exact HB.out | apply below_alloc | apply pw_below_drewN | apply below_drew1 | refine below_set ?_ GE561001.out | refine below_set ?_ GE561002.out | refine below_set ?_ GE561010.out) | exact HB.out)) hb)
                 clear HO561006
                 clear HO561018
                 clear HO561021
                 clear HO561028
                 clear BK561001
                 clear BK561002
                 clear BK561010
                 clear HB
                 have HO561006 := n0_
                 have HO561018 := n1_
                 have HO561021 := n2_
                 have HO561028 := n3_
                 have HO561025 := n4_
                 have BK561001 := n5_
                 have BK561002 := n6_
                 have BK561010 := n7_
                 have HB := n8_
                 clear n0_ n1_ n2_ n3_ n4_ n5_ n6_ n7_ n8_
                 (try clear hb)
                 (try clear hb2)
                 (try clear hk)
                 (try clear hi)
                 (try clear ho0)
                 refine hK.out _ _ ⟨(blk_cell BK561001.out 0).trans rfl, (blk_cell BK561001.out 1).trans rfl⟩ (fun hHeld => ?_)
                 clear hK K
                 refine norm_ (a' := ?_) ?_ ?_
                 rotate_left
                 ·show Act.put _ (some 69) _ = _
                  simp only [Act.put, List.setIfInBounds_toArray, List.set_cons_zero, List.set_cons_succ, i64_w, i32_w]
                  rfl
                 exact norm_ (by simp only [putAll, Act.put, List.setIfInBounds_toArray, List.set_cons_zero, List.set_cons_succ]) (hCont (v561024, v561027) _ ⟨hHeld, (by (with_reducible repeat (first | apply Kd.R_alloc | apply Kd.R_drewN | apply Kd.R_drew)); exact Kd.R_mono HO561006.out (fun _ hk => ⟨hk.1.1, ⟨hk.2, hk.1.2⟩⟩)), (by (with_reducible repeat (first | apply Kd.N_alloc | apply Kd.N_drewN | apply Kd.N_drew)); exact Kd.N_mono HO561018.out (fun _ hk => ⟨hk.1.1.1, ⟨hk.1.1.2.1, ⟨hk.1.1.2.2.1, ⟨hk.2, ⟨hk.1.2, ⟨hk.1.1.2.2.2.1, ⟨hk.1.1.2.2.2.2.1, hk.1.1.2.2.2.2.2⟩⟩⟩⟩⟩⟩⟩)), (by (with_reducible repeat (first | apply Kd.N_alloc | apply Kd.N_drewN | apply Kd.N_drew)); exact Kd.N_mono HO561021.out (fun _ hk => ⟨hk.1.1.1, ⟨hk.1.1.2.1, ⟨hk.2, ⟨hk.1.2, ⟨hk.1.1.2.2.1, ⟨hk.1.1.2.2.2.1, hk.1.1.2.2.2.2⟩⟩⟩⟩⟩⟩)), (by (with_reducible repeat (first | apply Kd.R_alloc | apply Kd.R_drewN | apply Kd.R_drew)); exact Kd.R_mono HO561025.out (fun _ hk => ⟨hk.1.1.1, ⟨hk.1.2, hk.2⟩⟩)), (by (with_reducible repeat (first | apply Kd.R_alloc | apply Kd.R_drewN | apply Kd.R_drew)); exact Kd.R_mono HO561028.out (fun _ hk => ⟨hk.1.1.1, ⟨hk.1.2, hk.2⟩⟩)), (by (with_reducible repeat (first | refine blk_drewN ?_ _ | refine blk_drew ?_ | refine blk_alloc ?_ _)); exact BK561001.out), (by (with_reducible repeat (first | refine blk_drewN ?_ _ | refine blk_drew ?_ | refine blk_alloc ?_ _)); exact BK561002.out), (by (with_reducible repeat (first | refine blk_drewN ?_ _ | refine blk_drew ?_ | refine blk_alloc ?_ _)); exact BK561010.out), (by repeat (first | (with_reducible first | exact HB.out | apply below_alloc | apply pw_below_drewN | apply below_drew1 | refine below_set ?_ GE561001.out | refine below_set ?_ GE561002.out | refine below_set ?_ GE561010.out) | exact HB.out))⟩)
               rintro ⟨v561024, v561027⟩ w69 ⟨hS_, h0_, h1_, h2_, h3_, h4_, h5_, h6_, h7_, h8_⟩
               have n0_ : Aside0 (Kd.R (Kd.int .i64) 2 w69 w.heap.size (fun k_ => (w.heap.size ≤ k_) ∧ some k_ ≠ (v561024 : Value).ownBlock ∧ some k_ ≠ (v561027 : Value).ownBlock) (.slice Ao46 t561004.length co46) t561004) := ⟨h0_⟩
               have n1_ : Aside0 (Kd.N (Kd.slice 2 (Kd.int .i64)) 22 w69 w.heap.size (fun k_ => (w.heap.size ≤ k_) ∧ some k_ ≠ (.slice Ao46 t561004.length co46 : Value).ownBlock ∧ some k_ ≠ (.slice Ao60 y561019.length co60 : Value).ownBlock ∧ some k_ ≠ (v561024 : Value).ownBlock ∧ some k_ ≠ (v561027 : Value).ownBlock ∧ k_ ≠ gb561001 ∧ k_ ≠ gb561002 ∧ k_ ≠ gb561010) (.slice Ao59 y561016.length co59) y561016) := ⟨h1_⟩
               have n2_ : Aside0 (Kd.N (Kd.slice 2 (Kd.int .i64)) 22 w69 w.heap.size (fun k_ => (w.heap.size ≤ k_) ∧ some k_ ≠ (.slice Ao46 t561004.length co46 : Value).ownBlock ∧ some k_ ≠ (v561024 : Value).ownBlock ∧ some k_ ≠ (v561027 : Value).ownBlock ∧ k_ ≠ gb561001 ∧ k_ ≠ gb561002 ∧ k_ ≠ gb561010) (.slice Ao60 y561019.length co60) y561019) := ⟨h2_⟩
               have n3_ : Aside0 (Kd.R (Kd.int .i64) 2 w69 w.heap.size (fun k_ => (w.heap.size ≤ k_) ∧ some k_ ≠ (.slice Ao46 t561004.length co46 : Value).ownBlock ∧ some k_ ≠ (v561027 : Value).ownBlock) v561024 t561023) := ⟨h3_⟩
               have n4_ : Aside0 (Kd.R (Kd.int .i64) 2 w69 w.heap.size (fun k_ => (w.heap.size ≤ k_) ∧ some k_ ≠ (.slice Ao46 t561004.length co46 : Value).ownBlock ∧ some k_ ≠ (v561024 : Value).ownBlock) v561027 y561026) := ⟨h4_⟩
               have n5_ : Aside0 (w69.heap[gb561001]? = some (.cells #[.slice (some ad561011) l0_0.length c0_0, .slice A0_1 l0_1.length c0_1] 28 (0, 0))) := ⟨h5_⟩
               have n6_ : Aside0 (w69.heap[gb561002]? = some (.cells #[.slice none 0 0, .slice none 0 0] 28 (0, 0))) := ⟨h6_⟩
               have n7_ : Aside0 (w69.heap[gb561010]? = some (.cells #[.slice Ao46 t561004.length co46, .slice Ao60 y561019.length co60] 28 (0, 0))) := ⟨h7_⟩
               have n8_ : Aside0 (Below w.heap.size w w69) := ⟨h8_⟩
               clear HO561006
               clear HO561018
               clear HO561021
               clear BK561001
               clear BK561002
               clear BK561010
               clear HB
               clear h0_ h1_ h2_ h3_ h4_ h5_ h6_ h7_ h8_
               have HO561006 := n0_
               have HO561018 := n1_
               have HO561021 := n2_
               have HO561025 := n3_
               have HO561028 := n4_
               have BK561001 := n5_
               have BK561002 := n6_
               have BK561010 := n7_
               have HB := n8_
               clear n0_ n1_ n2_ n3_ n4_ n5_ n6_ n7_ n8_
               have hHeld : w69.cell? ⟨gb561001, 0, none⟩ = some (.slice (some ad561011) l0_0.length c0_0) ∧ w69.cell? ⟨gb561001, 1, none⟩ = some (.slice A0_1 l0_1.length c0_1) := hS_
               obtain ⟨Ao71, co71, eo71⟩ := Kd.R_slice HO561028.out
               (first | subst eo71 | (injection eo71 with f1_ f2_ f3_; have f4_ := f1_.symm; have f5_ := f3_.symm; clear f1_ f2_ f3_; subst f4_; subst f5_))
               refine norm_ (a' := ?_) ?_ ?_
               rotate_left
               ·simp only [putAll, Act.put, List.setIfInBounds_toArray, List.set_cons_zero, List.set_cons_succ]
                rfl
               refine one_ (i := 7) (N := some 72) #[true, true, true, true, true, true, true, true, true, true, true, true, true, false, false, false] rfl rfl (one_of HT_.out (by kernel_rfl)) (by decide) (fun K hK => ?_)
               refine Kd.R_append_rows_step (Kd.int .i64) (w0 := w) w.heap.size (by rfl) (.tmp 69) (.tmp 71) 22 2 (.int .i64 0) 8 rfl Try.underlying22 info2 rfl (by decide) (by omega) v561024 t561023 y561026 _ _ _ (fun k_ => (w.heap.size ≤ k_) ∧ some k_ ≠ (.slice Ao46 t561004.length co46 : Value).ownBlock ∧ some k_ ≠ (.slice Ao71 y561026.length co71 : Value).ownBlock) (fun _ => False) rfl rfl ?aO ?aR (fun _ _ h => h) (fun _ h => h.elim) ?aF ?aB ?aS ?aL ?_
               (case aR => repeat (first | exact (Kd.R_reads' HO561028.out).2.2 | (with_reducible refine Kd.C_alloc ?_ _) | (with_reducible refine Kd.C_drewN ?_ _) | (with_reducible refine Kd.C_drew ?_)))
               (case aB => exact (by repeat (first | (with_reducible first | exact HB.out | apply below_alloc | apply pw_below_drewN | apply below_drew1 | refine below_set ?_ GE561001.out | refine below_set ?_ GE561002.out | refine below_set ?_ GE561010.out) | exact HB.out)))
               (case aF => exact (fun k_ hk => ⟨(Nat.le_trans (below_size (by repeat (first | (with_reducible first | exact HB.out | apply below_alloc | apply pw_below_drewN | apply below_drew1 | refine below_set ?_ GE561001.out | refine below_set ?_ GE561002.out | refine below_set ?_ GE561010.out) | exact HB.out))) hk), Kd.fresh' (Kd.R_lt (by (with_reducible repeat (first | apply Kd.R_alloc | apply Kd.R_drewN | apply Kd.R_drew)); exact HO561006.out)) k_ hk, Kd.fresh' (Kd.R_lt (by (with_reducible repeat (first | apply Kd.R_alloc | apply Kd.R_drewN | apply Kd.R_drew)); exact HO561028.out)) k_ hk⟩))
               (case aO => exact (by (with_reducible repeat (first | apply Kd.R_alloc | apply Kd.R_drewN | apply Kd.R_drew)); exact HO561025.out))
               (case aS => exact (below_size (by repeat (first | (with_reducible first | exact HB.out | apply below_alloc | apply pw_below_drewN | apply below_drew1 | refine below_set ?_ GE561001.out | refine below_set ?_ GE561002.out | refine below_set ?_ GE561010.out) | exact HB.out))))
               (case aL => have := LMc37.out; omega)
               intro v561030 w70 ho hb hg hat
               rw [← Ny561029.out] at ho
               have n0_ := Aside0.mk (blk_grown (g := gb561001) (o := .cells #[.slice (some ad561011) l0_0.length c0_0, .slice A0_1 l0_1.length c0_1] 28 (0, 0)) (by (with_reducible repeat (first | refine blk_drewN ?_ _ | refine blk_drew ?_ | refine blk_alloc ?_ _)); exact BK561001.out) hg (Kd.R_ne HO561025.out BK561001.out (by decide)))
               have n1_ := Aside0.mk (blk_grown (g := gb561002) (o := .cells #[.slice none 0 0, .slice none 0 0] 28 (0, 0)) (by (with_reducible repeat (first | refine blk_drewN ?_ _ | refine blk_drew ?_ | refine blk_alloc ?_ _)); exact BK561002.out) hg (Kd.R_ne HO561025.out BK561002.out (by decide)))
               have n2_ := Aside0.mk (Kd.R_after (ok := (fun k_ => (w.heap.size ≤ k_) ∧ some k_ ≠ (.slice Ao71 y561026.length co71 : Value).ownBlock)) (by (with_reducible repeat (first | apply Kd.R_alloc | apply Kd.R_drewN | apply Kd.R_drew)); exact Kd.R_mono HO561006.out (fun _ hk => ⟨⟨hk.1, hk.2.2⟩, hk.2.1⟩)) hg hat)
               have n3_ := Aside0.mk (blk_grown (g := gb561010) (o := .cells #[.slice Ao46 t561004.length co46, .slice Ao60 y561019.length co60] 28 (0, 0)) (by (with_reducible repeat (first | refine blk_drewN ?_ _ | refine blk_drew ?_ | refine blk_alloc ?_ _)); exact BK561010.out) hg (Kd.R_ne HO561025.out BK561010.out (by decide)))
               have n4_ := Aside0.mk (Kd.N_afterv (ok := (fun k_ => (w.heap.size ≤ k_) ∧ some k_ ≠ (.slice Ao46 t561004.length co46 : Value).ownBlock ∧ some k_ ≠ (.slice Ao60 y561019.length co60 : Value).ownBlock ∧ some k_ ≠ (.slice Ao71 y561026.length co71 : Value).ownBlock ∧ k_ ≠ gb561001 ∧ k_ ≠ gb561002 ∧ k_ ≠ gb561010)) (by (with_reducible repeat (first | apply Kd.N_alloc | apply Kd.N_drewN | apply Kd.N_drew)); exact Kd.N_mono HO561018.out (fun _ hk => ⟨⟨hk.1, ⟨hk.2.1, ⟨hk.2.2.1, ⟨hk.2.2.2.2.1, ⟨hk.2.2.2.2.2.1, ⟨hk.2.2.2.2.2.2.1, hk.2.2.2.2.2.2.2⟩⟩⟩⟩⟩⟩, hk.2.2.2.1⟩)) hg hat)
               have n5_ := Aside0.mk (Kd.N_afterv (ok := (fun k_ => (w.heap.size ≤ k_) ∧ some k_ ≠ (.slice Ao46 t561004.length co46 : Value).ownBlock ∧ some k_ ≠ (.slice Ao71 y561026.length co71 : Value).ownBlock ∧ k_ ≠ gb561001 ∧ k_ ≠ gb561002 ∧ k_ ≠ gb561010)) (by (with_reducible repeat (first | apply Kd.N_alloc | apply Kd.N_drewN | apply Kd.N_drew)); exact Kd.N_mono HO561021.out (fun _ hk => ⟨⟨hk.1, ⟨hk.2.1, ⟨hk.2.2.2.1, ⟨hk.2.2.2.2.1, ⟨hk.2.2.2.2.2.1, hk.2.2.2.2.2.2⟩⟩⟩⟩⟩, hk.2.2.1⟩)) hg hat)
               have n6_ := Aside0.mk (Kd.R_after (ok := (fun k_ => (w.heap.size ≤ k_) ∧ some k_ ≠ (.slice Ao46 t561004.length co46 : Value).ownBlock)) (by (with_reducible repeat (first | apply Kd.R_alloc | apply Kd.R_drewN | apply Kd.R_drew)); exact Kd.R_mono HO561028.out (fun _ hk => ⟨⟨hk.1, hk.2.1⟩, hk.2.2⟩)) hg hat)
               have n7_ := Aside0.mk (hb)
               have n8_ := Aside0.mk (ho)
               clear BK561001
               clear BK561002
               clear HO561006
               clear BK561010
               clear HO561018
               clear HO561021
               clear HO561028
               clear HB
               clear HO561025
               have BK561001 := n0_
               have BK561002 := n1_
               have HO561006 := n2_
               have BK561010 := n3_
               have HO561018 := n4_
               have HO561021 := n5_
               have HO561028 := n6_
               have HB := n7_
               have HO561031 := n8_
               clear n0_ n1_ n2_ n3_ n4_ n5_ n6_ n7_ n8_
               clear ho hb hg hat
               refine hK.out _ _ ⟨(blk_cell BK561001.out 0).trans rfl, (blk_cell BK561001.out 1).trans rfl⟩ (fun hHeld => ?_)
               clear hK K
               refine norm_ (a' := ?_) ?_ ?_
               rotate_left
               ·show Act.put _ (some 72) _ = _
                simp only [Act.put, List.setIfInBounds_toArray, List.set_cons_zero, List.set_cons_succ, i64_w, i32_w]
                rfl
               refine one_ (i := 13) (N := some 78) #[true, true, true, true, true, true, true, true, true, true, true, true, true, true, false, false] rfl rfl (one_of HT_.out (by kernel_rfl)) (by decide) (fun K hK => ?_)
               refine Kd.R_append_rows_step (Kd.int .i64) (w0 := w) w.heap.size (by rfl) (.tmp 72) (.tmp 77) 22 2 (.int .i64 0) 8 rfl Try.underlying22 info2 rfl (by decide) (by omega) v561030 y561029 (l0_0.drop ((ji38) : Int).toNat) _ _ _ (fun k_ => (w.heap.size ≤ k_) ∧ some k_ ≠ (.slice Ao46 t561004.length co46 : Value).ownBlock ∧ some k_ ≠ (.slice Ao71 y561026.length co71 : Value).ownBlock) (fun _ => False) rfl rfl ?aO ?aR (fun _ _ h => h) (fun _ h => h.elim) ?aF ?aB ?aS ?aL ?_
               (case aR => first | (rw [← show (l0_0.drop ((ji38) : Int).toNat).length = (l0_0.length - (ji38).toNat) from List.length_drop]; repeat (first | exact (Kd.C_below HR561032.out HB.out) | (with_reducible refine Kd.C_alloc ?_ _) | (with_reducible refine Kd.C_drewN ?_ _) | (with_reducible refine Kd.C_drew ?_))) | (repeat (first | exact (Kd.C_below HR561032.out HB.out) | (with_reducible refine Kd.C_alloc ?_ _) | (with_reducible refine Kd.C_drewN ?_ _) | (with_reducible refine Kd.C_drew ?_))))
               (case aB => exact (by repeat (first | (with_reducible first | exact HB.out | apply below_alloc | apply pw_below_drewN | apply below_drew1 | refine below_set ?_ GE561001.out | refine below_set ?_ GE561002.out | refine below_set ?_ GE561010.out) | exact HB.out)))
               (case aF => exact (fun k_ hk => ⟨(Nat.le_trans (below_size (by repeat (first | (with_reducible first | exact HB.out | apply below_alloc | apply pw_below_drewN | apply below_drew1 | refine below_set ?_ GE561001.out | refine below_set ?_ GE561002.out | refine below_set ?_ GE561010.out) | exact HB.out))) hk), Kd.fresh' (Kd.R_lt (by (with_reducible repeat (first | apply Kd.R_alloc | apply Kd.R_drewN | apply Kd.R_drew)); exact HO561006.out)) k_ hk, Kd.fresh' (Kd.R_lt (by (with_reducible repeat (first | apply Kd.R_alloc | apply Kd.R_drewN | apply Kd.R_drew)); exact HO561028.out)) k_ hk⟩))
               (case aO => exact (by (with_reducible repeat (first | apply Kd.R_alloc | apply Kd.R_drewN | apply Kd.R_drew)); exact HO561031.out))
               (case aS => exact (below_size (by repeat (first | (with_reducible first | exact HB.out | apply below_alloc | apply pw_below_drewN | apply below_drew1 | refine below_set ?_ GE561001.out | refine below_set ?_ GE561002.out | refine below_set ?_ GE561010.out) | exact HB.out))))
               (case aL => have := LMc41.out; have hlx_ := (show (l0_0.drop ((ji38) : Int).toNat).length = (l0_0.length - (ji38).toNat) from List.length_drop); omega)
               intro v561034 w72 ho hb hg hat
               rw [← Ny561033.out] at ho
               have n0_ := Aside0.mk (blk_grown (g := gb561001) (o := .cells #[.slice (some ad561011) l0_0.length c0_0, .slice A0_1 l0_1.length c0_1] 28 (0, 0)) (by (with_reducible repeat (first | refine blk_drewN ?_ _ | refine blk_drew ?_ | refine blk_alloc ?_ _)); exact BK561001.out) hg (Kd.R_ne HO561031.out BK561001.out (by decide)))
               have n1_ := Aside0.mk (blk_grown (g := gb561002) (o := .cells #[.slice none 0 0, .slice none 0 0] 28 (0, 0)) (by (with_reducible repeat (first | refine blk_drewN ?_ _ | refine blk_drew ?_ | refine blk_alloc ?_ _)); exact BK561002.out) hg (Kd.R_ne HO561031.out BK561002.out (by decide)))
               have n2_ := Aside0.mk (Kd.R_after (ok := (fun k_ => (w.heap.size ≤ k_) ∧ some k_ ≠ (.slice Ao71 y561026.length co71 : Value).ownBlock)) (by (with_reducible repeat (first | apply Kd.R_alloc | apply Kd.R_drewN | apply Kd.R_drew)); exact HO561006.out) hg hat)
               have n3_ := Aside0.mk (blk_grown (g := gb561010) (o := .cells #[.slice Ao46 t561004.length co46, .slice Ao60 y561019.length co60] 28 (0, 0)) (by (with_reducible repeat (first | refine blk_drewN ?_ _ | refine blk_drew ?_ | refine blk_alloc ?_ _)); exact BK561010.out) hg (Kd.R_ne HO561031.out BK561010.out (by decide)))
               have n4_ := Aside0.mk (Kd.N_afterv (ok := (fun k_ => (w.heap.size ≤ k_) ∧ some k_ ≠ (.slice Ao46 t561004.length co46 : Value).ownBlock ∧ some k_ ≠ (.slice Ao60 y561019.length co60 : Value).ownBlock ∧ some k_ ≠ (.slice Ao71 y561026.length co71 : Value).ownBlock ∧ k_ ≠ gb561001 ∧ k_ ≠ gb561002 ∧ k_ ≠ gb561010)) (by (with_reducible repeat (first | apply Kd.N_alloc | apply Kd.N_drewN | apply Kd.N_drew)); exact HO561018.out) hg hat)
               have n5_ := Aside0.mk (Kd.N_afterv (ok := (fun k_ => (w.heap.size ≤ k_) ∧ some k_ ≠ (.slice Ao46 t561004.length co46 : Value).ownBlock ∧ some k_ ≠ (.slice Ao71 y561026.length co71 : Value).ownBlock ∧ k_ ≠ gb561001 ∧ k_ ≠ gb561002 ∧ k_ ≠ gb561010)) (by (with_reducible repeat (first | apply Kd.N_alloc | apply Kd.N_drewN | apply Kd.N_drew)); exact HO561021.out) hg hat)
               have n6_ := Aside0.mk (Kd.R_after (ok := (fun k_ => (w.heap.size ≤ k_) ∧ some k_ ≠ (.slice Ao46 t561004.length co46 : Value).ownBlock)) (by (with_reducible repeat (first | apply Kd.R_alloc | apply Kd.R_drewN | apply Kd.R_drew)); exact HO561028.out) hg hat)
               have n7_ := Aside0.mk (hb)
               have n8_ := Aside0.mk (ho)
               clear BK561001
               clear BK561002
               clear HO561006
               clear BK561010
               clear HO561018
               clear HO561021
               clear HO561028
               clear HB
               clear HO561031
               have BK561001 := n0_
               have BK561002 := n1_
               have HO561006 := n2_
               have BK561010 := n3_
               have HO561018 := n4_
               have HO561021 := n5_
               have HO561028 := n6_
               have HB := n7_
               have HO561035 := n8_
               clear n0_ n1_ n2_ n3_ n4_ n5_ n6_ n7_ n8_
               clear ho hb hg hat
               obtain ⟨Ao73, co73, eo73⟩ := Kd.R_slice HO561035.out
               (first | subst eo73 | (injection eo73 with f1_ f2_ f3_; have f4_ := f1_.symm; have f5_ := f3_.symm; clear f1_ f2_ f3_; subst f4_; subst f5_))
               refine hK.out _ _ ⟨(blk_cell BK561001.out 0).trans rfl, (blk_cell BK561001.out 1).trans rfl⟩ (fun hHeld => ?_)
               clear hK K
               refine norm_ (a' := ?_) ?_ ?_
               rotate_left
               ·show Act.put _ (some 78) _ = _
                simp only [Act.put, List.setIfInBounds_toArray, List.set_cons_zero, List.set_cons_succ, i64_w, i32_w]
                rfl
               refine pure_ (i := 14) (N := some 79) (v := ?_) (a' := ?_) #[true, true, true, true, true, true, true, true, true, true, true, true, true, true, true, false] rfl rfl (any_of HT_.out (by kernel_rfl)) (fun _ _ _ h => h) (Or.inl ⟨by rfl, ?_⟩) ?_ ?_
               rotate_left
               ·intro w'
                go_simp
                with_reducible rfl
               rotate_left
               ·simp only [Act.put, List.setIfInBounds_toArray, List.set_cons_zero, List.set_cons_succ, i64_w, i32_w]
                rfl
               refine one_ (i := 15) (N := none) #[true, true, true, true, true, true, true, true, true, true, true, true, true, true, true, true] rfl rfl (one_of HT_.out (by kernel_rfl)) (by decide) (fun K hK => ?_)
               have hs74 : w72.cell? ⟨gb561010, 0, none⟩ = some (.slice Ao46 t561004.length co46) := (blk_cell BK561010.out 0).trans rfl
               have hfs74 := blk_frozen BK561010.out 0
               have hns74_0 := NB561001_561010.out
               have hns74_1 := NB561002_561010.out
               have hms74_0 := NB561010_561001.out
               have hms74_1 := NB561010_561002.out
               refine skip_ (w1 := ?_) (by rfl) rfl ?_ ?_
               rotate_left
               ·go_simp
                rfl
               refine hK.out _ _ ⟨((cell_far (p := ⟨gb561010, _, none⟩) NB561001_561010.out _).trans (hHeld.1)), ((cell_far (p := ⟨gb561010, _, none⟩) NB561001_561010.out _).trans (hHeld.2))⟩ (fun hHeld => ?_)
               clear hK K
               refine done_ (done_of HT_.out (by kernel_rfl)) ?_
               have hcz75_0 : w72.cell? ⟨gb561010, 0, none⟩ = some (.slice Ao46 t561004.length co46) := (blk_cell BK561010.out 0).trans rfl
               have hcz75_1 : w72.cell? ⟨gb561010, 1, none⟩ = some (.slice Ao60 y561019.length co60) := (blk_cell BK561010.out 1).trans rfl
               have hfz75_0 := blk_frozen BK561010.out 0
               have hfz75_1 := blk_frozen BK561010.out 1
               have hcz76_0 : w72.cell? ⟨gb561002, 0, none⟩ = some (.slice none 0 0) := (blk_cell BK561002.out 0).trans rfl
               have hcz76_1 : w72.cell? ⟨gb561002, 1, none⟩ = some (.slice none 0 0) := (blk_cell BK561002.out 1).trans rfl
               have hfz76_0 := blk_frozen BK561002.out 0
               have hfz76_1 := blk_frozen BK561002.out 1
               try go_wp2
               refine bodyPost_ret (results_ct rfl _ _ gb561002 28 #[.slice Ao73 y561033.length co73, .slice Ao60 y561019.length co60] (0, 0) _ rfl (by (with_reducible repeat (first | refine blk_drewN ?_ _ | refine blk_drew ?_ | refine blk_alloc ?_ _)); refine blk_put (cs := #[.slice Ao73 y561033.length co73, .slice none 0 0]) ?_ 1 _ rfl; (with_reducible repeat (first | refine blk_drewN ?_ _ | refine blk_drew ?_ | refine blk_alloc ?_ _)); refine blk_put (cs := #[.slice none 0 0, .slice none 0 0]) ?_ 0 _ rfl; (with_reducible repeat (first | refine blk_drewN ?_ _ | refine blk_drew ?_ | refine blk_alloc ?_ _)); refine blk_far ?_ NB561002_561010.out _; (with_reducible repeat (first | refine blk_drewN ?_ _ | refine blk_drew ?_ | refine blk_alloc ?_ _)); exact BK561002.out) Try.underlying28 rfl (by kernel_rfl)) rfl ?_
               exact ⟨_, _, by first | rfl | (simp [errW_none, errW_some] <;> rfl) | (simp only [← hji30, ← hji38]; first | rfl | (simp [errW_none, errW_some] <;> rfl)) | (simp [*, errW_none, errW_some] <;> rfl), by (with_reducible repeat (first | apply Kd.R_alloc | apply Kd.R_drewN | apply Kd.R_drew)); exact Kd.R_mono (Kd.R_far (p := ⟨gb561002, 1, none⟩) (Kd.R_far (p := ⟨gb561002, 0, none⟩) (Kd.R_far (p := ⟨gb561010, 0, none⟩) (Kd.R_types (Kd.R_types HO561035.out BK561010.out (by decide)) BK561002.out (by decide)) (fun _ hk => hk.1.2) (.slice Ao73 y561033.length co73)) (fun _ hk => hk.2) (.slice Ao73 y561033.length co73)) (fun _ hk => hk.2) (.slice Ao60 y561019.length co60)) (fun _ hk => hk.1.1.1), by (with_reducible repeat (first | apply Kd.N_alloc | apply Kd.N_drewN | apply Kd.N_drew)); exact Kd.N_mono (Kd.N_far (p := ⟨gb561002, 1, none⟩) (Kd.N_far (p := ⟨gb561002, 0, none⟩) (Kd.N_far (p := ⟨gb561010, 0, none⟩) (Kd.N_mono (Kd.N_mono HO561021.out (fun k_ hk => (⟨hk, hk.1.2.2.2.2.2⟩ : _ ∧ k_ ≠ gb561010))) (fun k_ hk => (⟨hk, hk.1.1.2.2.2.2.1⟩ : _ ∧ k_ ≠ gb561002))) (fun _ hk => hk.1.2) (.slice Ao73 y561033.length co73)) (fun _ hk => hk.2) (.slice Ao73 y561033.length co73)) (fun _ hk => hk.2) (.slice Ao60 y561019.length co60)) (fun _ hk => ⟨hk.1.1.1.1, hk.1.1.2⟩), by repeat (first | (with_reducible first | exact HB.out | apply below_alloc | apply pw_below_drewN | apply below_drew1 | refine below_set ?_ GE561001.out | refine below_set ?_ GE561002.out | refine below_set ?_ GE561010.out) | exact HB.out)⟩
              ·rw [if_neg c41] at H
               exact absurd H (by simp)
             ·rw [if_neg c40] at H
              exact absurd H (by simp)
            ·rw [if_neg c39] at H
             exact absurd H (by simp)
           ·rw [if_neg c37] at H
            exact absurd H (by simp)
          ·rw [if_neg c35] at H
           exact absurd H (by simp)
         ·rw [if_neg c33] at H
          exact absurd H (by simp)
        ·rw [if_neg c32] at H
         exact absurd H (by simp)
       ·rw [if_neg c31] at H
        exact absurd H (by simp)
      ·rw [if_neg c29] at H
       exact absurd H (by simp)
     ·rw [if_neg c28] at H
      exact absurd H (by simp)
 ·rw [if_neg c4] at H
  have c4b0 : (t561003 == 0) = false := beq_eq_false_iff_ne.mpr c4
  have c4b1 : (t561003 != 0) = true := bne_iff_ne.mpr c4
  simp only [Option.some.injEq, Prod.mk.injEq] at H
  obtain ⟨rfl, rfl, rfl⟩ := H
  go_enter Try.func56, Try.ntmps56
  go_wp2_with (first | ((with_reducible refine gate_dst (N := 2) rfl ?_); refine box_event ?hg (N := 2) ?hd (cs := #[.slice A0_0 l0_0.length c0_0, .slice A0_1 l0_1.length c0_1]) (t := 28) ?hr ?_; (case hd => rfl); (case hg => rfl); (case hr => first | (go_simp; done) | (go_simp; rfl)); intro gb561001 hg w77 hbox hb; have n0_ := Aside0.mk (below_step (by repeat (first | (with_reducible first | exact HB.out | apply below_alloc | apply pw_below_drewN | apply below_drew1) | exact HB.out)) hb); have n1_ := Aside0.mk (hbox); have n2_ := Aside0.mk ((by rw [hg]; exact (below_size (by repeat (first | (with_reducible first | exact HB.out | apply below_alloc | apply pw_below_drewN | apply below_drew1) | exact HB.out))) : w.heap.size ≤ gb561001)); have n3_ := Aside0.mk ((by rw [hg]; exact (below_size (by repeat (first | (with_reducible first | exact HB.out | apply below_alloc | apply pw_below_drewN | apply below_drew1) | exact HB.out))) : w.heap.size ≤ gb561001)); clear HB; have HB := n0_; have BK561001 := n1_; have GW561001 := n2_; have GE561001 := n3_; clear n0_ n1_ n2_ n3_; clear hb hbox hg) | ((with_reducible refine gate_dst (N := 4) rfl ?_); refine box_event ?hg (N := 4) ?hd (cs := #[.slice none 0 0, .slice none 0 0]) (t := 28) ?hr ?_; (case hd => rfl); (case hg => rfl); (case hr => first | (go_simp; done) | (go_simp; rfl)); intro gb561002 hg w78 hbox hb; have n0_ := Aside0.mk (blk_below (g := gb561001) (o := .cells #[.slice A0_0 l0_0.length c0_0, .slice A0_1 l0_1.length c0_1] 28 (0, 0)) (by (with_reducible repeat (first | refine blk_drewN ?_ _ | refine blk_drew ?_ | refine blk_alloc ?_ _)); exact BK561001.out) hb); have n1_ := Aside0.mk (below_step (by repeat (first | (with_reducible first | exact HB.out | apply below_alloc | apply pw_below_drewN | apply below_drew1 | refine below_set ?_ GE561001.out) | exact HB.out)) hb); have n2_ := Aside0.mk (hbox); have n3_ := Aside0.mk ((by rw [hg]; exact (below_size (by repeat (first | (with_reducible first | exact HB.out | apply below_alloc | apply pw_below_drewN | apply below_drew1 | refine below_set ?_ GE561001.out) | exact HB.out))) : w.heap.size ≤ gb561002)); have n4_ := Aside0.mk ((by rw [hg]; exact (below_size (by repeat (first | (with_reducible first | exact HB.out | apply below_alloc | apply pw_below_drewN | apply below_drew1 | refine below_set ?_ GE561001.out) | exact HB.out))) : w.heap.size ≤ gb561002)); have n5_ := Aside0.mk ((by rw [hg]; exact Nat.ne_of_lt (blk_lt (g := gb561001) (o := .cells #[.slice A0_0 l0_0.length c0_0, .slice A0_1 l0_1.length c0_1] 28 (0, 0)) (by (with_reducible repeat (first | refine blk_drewN ?_ _ | refine blk_drew ?_ | refine blk_alloc ?_ _)); exact BK561001.out)) : gb561001 ≠ gb561002)); have n6_ := Aside0.mk ((by rw [hg]; exact Nat.ne_of_gt (blk_lt (g := gb561001) (o := .cells #[.slice A0_0 l0_0.length c0_0, .slice A0_1 l0_1.length c0_1] 28 (0, 0)) (by (with_reducible repeat (first | refine blk_drewN ?_ _ | refine blk_drew ?_ | refine blk_alloc ?_ _)); exact BK561001.out)) : gb561002 ≠ gb561001)); clear BK561001; clear HB; have BK561001 := n0_; have HB := n1_; have BK561002 := n2_; have GW561002 := n3_; have GE561002 := n4_; have NB561001_561002 := n5_; have NB561002_561001 := n6_; clear n0_ n1_ n2_ n3_ n4_ n5_ n6_; clear hb hbox hg; have hnb79 := NB561001_561002.out; have hnc79 := NB561002_561001.out; have hcz80_0 : w78.cell? ⟨gb561001, 0, none⟩ = some (.slice A0_0 l0_0.length c0_0) := (blk_cell BK561001.out 0).trans rfl; have hcz80_1 : w78.cell? ⟨gb561001, 1, none⟩ = some (.slice A0_1 l0_1.length c0_1) := (blk_cell BK561001.out 1).trans rfl; have hfz80_0 := blk_frozen BK561001.out 0; have hfz80_1 := blk_frozen BK561001.out 1) | ((with_reducible refine gate_callee (f := 122) rfl ?_); refine goesL_ (some 13) rfl rfl Try.func122 (by kernel_rfl) rfl #[.agg #[.slice A0_0 l0_0.length c0_0, .slice A0_1 l0_1.length c0_1], .int .i64 a1] rfl (by (try simp only [List.map_toArray, List.map_cons, List.map_nil]); first | done | rfl | (simp only [List.length_drop, List.length_take]; rfl)) ?_; (with_reducible refine (spec_l06Code.calls k _ _ l0_0 _ _ l0_1 a1 t561003 _ ?side1 ?side2 ?side3 ?side4 A3.out).mono ?_); (case side1 => repeat (first | exact (Kd.C_below HR0_0.out HB.out) | (with_reducible refine Kd.C_alloc ?_ _) | (with_reducible refine Kd.C_drewN ?_ _) | (with_reducible refine Kd.C_drew ?_))); (case side2 => exact HC0_0.out); (case side3 => repeat (first | exact (Kd.C_below HR0_1.out HB.out) | (with_reducible refine Kd.C_alloc ?_ _) | (with_reducible refine Kd.C_drewN ?_ _) | (with_reducible refine Kd.C_drew ?_))); (case side4 => exact HC0_1.out); rintro e w81 ⟨rfl, hb⟩; refine ⟨_, rfl, ?_⟩; have n0_ := Aside0.mk (blk_below (g := gb561001) (o := .cells #[.slice A0_0 l0_0.length c0_0, .slice A0_1 l0_1.length c0_1] 28 (0, 0)) (by (with_reducible repeat (first | refine blk_drewN ?_ _ | refine blk_drew ?_ | refine blk_alloc ?_ _)); exact BK561001.out) hb); have n1_ := Aside0.mk (blk_below (g := gb561002) (o := .cells #[.slice none 0 0, .slice none 0 0] 28 (0, 0)) (by (with_reducible repeat (first | refine blk_drewN ?_ _ | refine blk_drew ?_ | refine blk_alloc ?_ _)); exact BK561002.out) hb); have n2_ := Aside0.mk (below_step (by repeat (first | (with_reducible first | exact HB.out | apply below_alloc | apply pw_below_drewN | apply below_drew1 | refine below_set ?_ GE561001.out | refine below_set ?_ GE561002.out) | exact HB.out)) hb); clear BK561001; clear BK561002; clear HB; have BK561001 := n0_; have BK561002 := n1_; have HB := n2_; clear n0_ n1_ n2_; (try clear hb); (try clear hb2); (try clear hk); (try clear hi); have hcz82_0 : w81.cell? ⟨gb561002, 0, none⟩ = some (.slice none 0 0) := (blk_cell BK561002.out 0).trans rfl; have hcz82_1 : w81.cell? ⟨gb561002, 1, none⟩ = some (.slice none 0 0) := (blk_cell BK561002.out 1).trans rfl; have hfz82_0 := blk_frozen BK561002.out 0; have hfz82_1 := blk_frozen BK561002.out 1))
  refine bodyPost_ret (results_ct rfl _ _ gb561002 28 #[.slice none 0 0, .slice none 0 0] (0, 0) _ rfl (by (with_reducible repeat (first | refine blk_drewN ?_ _ | refine blk_drew ?_ | refine blk_alloc ?_ _)); refine blk_put (cs := #[.slice none 0 0, .slice none 0 0]) ?_ 1 _ rfl; (with_reducible repeat (first | refine blk_drewN ?_ _ | refine blk_drew ?_ | refine blk_alloc ?_ _)); refine blk_put (cs := #[.slice none 0 0, .slice none 0 0]) ?_ 0 _ rfl; (with_reducible repeat (first | refine blk_drewN ?_ _ | refine blk_drew ?_ | refine blk_alloc ?_ _)); exact BK561002.out) Try.underlying28 rfl (by kernel_rfl)) rfl ?_
  exact ⟨_, _, by first | rfl | (simp [errW_none, errW_some] <;> rfl) | (simp [*, errW_none, errW_some] <;> rfl), by first | exact Kd.R_nil _ _ _ _ _ | exact Kd.N_nil _ _ _ _ _ | exact Kd.V_nil _ _ _ _ _ | exact Kd.Q_nil _ _ _ _ _ | exact Kd.S_nil _ _ _ _ _, by first | exact Kd.S_nil _ _ _ _ _ | exact Kd.N_nil _ _ _ _ _ | exact Kd.V_nil _ _ _ _ _ | exact Kd.Q_nil _ _ _ _ _ | exact Kd.R_nil _ _ _ _ _, by repeat (first | (with_reducible first | exact HB.out | apply below_alloc | apply pw_below_drewN | apply below_drew1 | refine below_set ?_ GE561001.out | refine below_set ?_ GE561002.out) | exact HB.out)⟩
end Go.Proofs.Ytnlhhbnoccobmaa.F
end
section
namespace Go.Proofs.Ytnlhhbnoccobmaa.Web
set_option linter.unusedVariables false
set_option linter.unusedSimpArgs false
def inc (legs : List Int) (forks : List (List Int)) : List (Int × Nat) := legs.zipIdx ++ (forks.zipIdx legs.length).flatMap fun p => p.1.map fun e => (e, p.2)
def ends (I : List (Int × Nat)) (e : Int) : List Nat := (I.filter fun p => p.1 == e).map fun p => p.2
theorem mem_ends {I : List (Int × Nat)} {e : Int} {u : Nat} : u ∈ ends I e ↔ (e, u) ∈ I := by
  unfold ends
  rw [List.mem_map]
  constructor
  · rintro ⟨p, hp, rfl⟩
    obtain ⟨h1, h2⟩ := List.mem_filter.1 hp
    rw [← eq_of_beq h2]; exact h1
  · exact fun h => ⟨_, List.mem_filter.2 ⟨h, by simp⟩, rfl⟩
def J (I : List (Int × Nat)) (u v : Nat) : Prop := ∃ e, (e, u) ∈ I ∧ (e, v) ∈ I
theorem J.symm {I : List (Int × Nat)} {u v : Nat} (h : J I u v) : J I v u := by obtain ⟨e, a, b⟩ := h; exact ⟨e, b, a⟩
inductive Reach (I : List (Int × Nat)) : Nat → Nat → Prop
  | refl (v : Nat) : Reach I v v
  | step {u v x : Nat} : Reach I u v → J I v x → Reach I u x
theorem Reach.trans {I : List (Int × Nat)} {a b c : Nat} (h : Reach I a b) (g : Reach I b c) : Reach I a c := by
  induction g with
  | refl => exact h
  | step _ j ih => exact .step ih j
theorem Reach.symm {I : List (Int × Nat)} {a b : Nat} (h : Reach I a b) : Reach I b a := by
  induction h with
  | refl => exact .refl _
  | step _ j ih => exact (Reach.step (.refl _) j.symm).trans ih
theorem least (P : Nat → Prop) : ∀ n, P n → ∃ m, P m ∧ ∀ k, P k → m ≤ k := by
  intro n
  induction n using Nat.strongRecOn with
  | ind n ih =>
    intro h
    by_cases g : ∃ k, k < n ∧ P k
    · obtain ⟨k, hk, hp⟩ := g; exact ih k hk hp
    · exact ⟨n, h, fun k hk => Nat.le_of_not_lt fun hlt => g ⟨k, hlt, hk⟩⟩
noncomputable def lbl (I : List (Int × Nat)) (v : Nat) : Nat := Classical.choose (least (Reach I v) v (.refl v))
theorem lbl_reach (I : List (Int × Nat)) (v : Nat) : Reach I v (lbl I v) := (Classical.choose_spec (least (Reach I v) v (.refl v))).1
theorem lbl_least {I : List (Int × Nat)} {v k : Nat} (h : Reach I v k) : lbl I v ≤ k := (Classical.choose_spec (least (Reach I v) v (.refl v))).2 k h
theorem lbl_le (I : List (Int × Nat)) (v : Nat) : lbl I v ≤ v := lbl_least (.refl v)
theorem lbl_same {I : List (Int × Nat)} {u v : Nat} (h : Reach I u v) : lbl I u = lbl I v :=
  Nat.le_antisymm (lbl_least (h.trans (lbl_reach I v))) (lbl_least (h.symm.trans (lbl_reach I u)))
theorem lbl_one {I : List (Int × Nat)} {u v : Nat} (h : J I u v) : lbl I u = lbl I v := lbl_same (.step (.refl _) h)
theorem lbl_idem (I : List (Int × Nat)) (v : Nat) : lbl I (lbl I v) = lbl I v := (lbl_same (lbl_reach I v)).symm
theorem lbl_two {I : List (Int × Nat)} {S : Nat → Prop} (hS : ∀ u v, J I u v → S u → S v) {v : Nat} (h : S v) : S (lbl I v) := by
  have key : ∀ {a b}, Reach I a b → S a → S b := by
    intro a b hr
    induction hr with
    | refl => exact fun h => h
    | step _ j ih => exact fun h => hS _ _ j (ih h)
  exact key (lbl_reach I v) h
def at_ (out : List Nat) (v : Nat) : Nat := out.getD v 0
structure Fits (I : List (Int × Nat)) (n : Nat) (out : List Nat) : Prop where
  len : out.length = n
  le : ∀ v, v < n → at_ out v ≤ v
  cls : ∀ v, v < n → lbl I (at_ out v) = lbl I v
theorem Fits.ge {I : List (Int × Nat)} {n : Nat} {out : List Nat} (h : Fits I n out) {v : Nat} (hv : v < n) : lbl I v ≤ at_ out v := by
  rw [← h.cls v hv]; exact lbl_le _ _
theorem at_set {out : List Nat} {i v x : Nat} (hi : i < out.length) : at_ (out.set i x) v = if v = i then x else at_ out v := by
  unfold at_
  rw [List.getD_eq_getElem?_getD, List.getElem?_set]
  by_cases e : i = v
  · rw [if_pos e, if_pos (by omega), if_pos e.symm]; rfl
  · rw [if_neg e, if_neg (Ne.symm e), ← List.getD_eq_getElem?_getD]
def low2 (out : List Nat) (a b : Nat) : Nat := min (at_ out a) (at_ out b)
def relax2 (out : List Nat) (a b : Nat) : List Nat := (out.set a (low2 out a b)).set b (low2 out a b)
theorem relax2_at {out : List Nat} {a b v : Nat} (ha : a < out.length) (hb : b < out.length) : at_ (relax2 out a b) v = if v = a ∨ v = b then low2 out a b else at_ out v := by
  unfold relax2
  rw [at_set (by rw [List.length_set]; exact hb), at_set ha]
  by_cases e : v = b
  · rw [if_pos e, if_pos (.inr e)]
  · rw [if_neg e]
    by_cases g : v = a
    · rw [if_pos g, if_pos (.inl g)]
    · rw [if_neg g, if_neg (by rintro (h | h); exact g h; exact e h)]
theorem Fits.relax {I : List (Int × Nat)} {n : Nat} {out : List Nat} (h : Fits I n out) {a b : Nat} (ha : a < n) (hb : b < n) (hj : J I a b) : Fits I n (relax2 out a b) := by
  have hl := h.len
  have e := lbl_one hj
  have h1 := h.le a ha
  have h2 := h.le b hb
  have c1 := h.cls a ha
  have c2 := h.cls b hb
  have g1 := h.ge ha
  have g2 := h.ge hb
  refine ⟨by unfold relax2; rw [List.length_set, List.length_set]; exact hl, fun v hv => ?_, fun v hv => ?_⟩
  · rw [relax2_at (by omega) (by omega)]
    split
    · rename_i g; unfold low2
      rcases g with g | g <;> subst g
      · omega
      · omega
    · exact h.le v hv
  · rw [relax2_at (by omega) (by omega)]
    split
    · rename_i g
      have : lbl I (low2 out a b) = lbl I a := by
        unfold low2
        rcases Nat.le_total (at_ out a) (at_ out b) with q | q
        · rw [Nat.min_eq_left q]; exact c1
        · rw [Nat.min_eq_right q, c2]; exact e.symm
      rcases g with g | g <;> subst g
      · exact this
      · rw [this]; exact e
    · exact h.cls v hv
theorem relax2_le {I : List (Int × Nat)} {n : Nat} {out : List Nat} (h : Fits I n out) {a b v : Nat} (ha : a < n) (hb : b < n) : at_ (relax2 out a b) v ≤ at_ out v := by
  have hl := h.len
  rw [relax2_at (by omega) (by omega)]
  split
  · rename_i g; unfold low2
    rcases g with g | g <;> subst g
    · exact Nat.min_le_left _ _
    · exact Nat.min_le_right _ _
  · exact Nat.le_refl _
def Set_ (I : List (Int × Nat)) (out : List Nat) (v : Nat) : Prop := at_ out v = lbl I v
theorem Set_.keep {I : List (Int × Nat)} {n : Nat} {out : List Nat} (h : Fits I n out) {a b v : Nat} (ha : a < n) (hb : b < n) (hj : J I a b) (hv : v < n) (hs : Set_ I out v) : Set_ I (relax2 out a b) v := by
  have h1 := relax2_le h ha hb (v := v)
  have h2 := (h.relax ha hb hj).ge hv
  unfold Set_ at *
  omega
theorem Set_.both {I : List (Int × Nat)} {n : Nat} {out : List Nat} (h : Fits I n out) {a b : Nat} (ha : a < n) (hb : b < n) (hj : J I a b) (hs : Set_ I out a ∨ Set_ I out b) : Set_ I (relax2 out a b) a ∧ Set_ I (relax2 out a b) b := by
  have hl := h.len
  have e := lbl_one hj
  have g1 := h.ge ha
  have g2 := h.ge hb
  unfold Set_ at *
  rw [relax2_at (by omega) (by omega), relax2_at (by omega) (by omega), if_pos (.inl rfl), if_pos (.inr rfl)]
  unfold low2
  rcases hs with hs | hs <;> omega
def relax (I : List (Int × Nat)) (out : List Nat) (e : Int) : List Nat := relax2 out ((ends I e).getD 0 0) ((ends I e).getD 1 0)
structure Two (I : List (Int × Nat)) (n : Nat) : Prop where
  two : ∀ e u, (e, u) ∈ I → (ends I e).length = 2
  lt : ∀ e u, (e, u) ∈ I → u < n
theorem Two.at_ {I : List (Int × Nat)} {n : Nat} (h : Two I n) {e : Int} {u : Nat} (he : (e, u) ∈ I) : ∃ a b, ends I e = [a, b] ∧ a < n ∧ b < n ∧ J I a b ∧ (u = a ∨ u = b) := by
  have h2 := h.two e u he
  match hh : ends I e, h2 with
  | [a, b], _ =>
    have ha : (e, a) ∈ I := mem_ends.1 (by rw [hh]; simp)
    have hb : (e, b) ∈ I := mem_ends.1 (by rw [hh]; simp)
    have hu : u ∈ ends I e := mem_ends.2 he
    rw [hh] at hu
    exact ⟨a, b, rfl, h.lt e a ha, h.lt e b hb, ⟨e, ha, hb⟩, by simpa using hu⟩
theorem fold_keep {I : List (Int × Nat)} {n : Nat} (h2 : Two I n) : ∀ (L : List Int) (out : List Nat), (∀ e ∈ L, ∃ u, (e, u) ∈ I) → Fits I n out → Fits I n (L.foldl (relax I) out) ∧ ∀ v, v < n → Set_ I out v → Set_ I (L.foldl (relax I) out) v
  | [], out, _, h => ⟨h, fun _ _ hs => hs⟩
  | e :: L, out, hL, h => by
    obtain ⟨u, hu⟩ := hL e List.mem_cons_self
    obtain ⟨a, b, he, ha, hb, hj, _⟩ := h2.at_ hu
    have hr : relax I out e = relax2 out a b := by unfold relax; rw [he]; rfl
    rw [List.foldl_cons, hr]
    have ih := fold_keep h2 L (relax2 out a b) (fun e he => hL e (List.mem_cons_of_mem _ he)) (h.relax ha hb hj)
    exact ⟨ih.1, fun v hv hs => ih.2 v hv (hs.keep h ha hb hj hv)⟩
theorem fold_step {I : List (Int × Nat)} {n : Nat} (h2 : Two I n) {u v : Nat} (hu : u < n) {e : Int} (hue : (e, u) ∈ I) (hve : (e, v) ∈ I) : ∀ (L : List Int) (out : List Nat), (∀ e ∈ L, ∃ u, (e, u) ∈ I) → Fits I n out → e ∈ L → Set_ I out u → Set_ I (L.foldl (relax I) out) v
  | [], _, _, _, h, _ => absurd h (by simp)
  | c :: L, out, hL, h, hm, hs => by
    obtain ⟨z, hz⟩ := hL c List.mem_cons_self
    obtain ⟨a, b, he, ha, hb, hj, _⟩ := h2.at_ hz
    have hr : relax I out c = relax2 out a b := by unfold relax; rw [he]; rfl
    rw [List.foldl_cons, hr]
    by_cases g : e = c
    · subst g
      have h1 : u ∈ ends I e := mem_ends.2 hue
      have h3 : v ∈ ends I e := mem_ends.2 hve
      rw [he] at h1 h3
      have hb2 := Set_.both h ha hb hj (by simp at h1; rcases h1 with q | q <;> subst q; exact .inl hs; exact .inr hs)
      refine (fold_keep h2 L _ (fun e he => hL e (List.mem_cons_of_mem _ he)) (h.relax ha hb hj)).2 v (h2.lt e v hve) ?_
      simp at h3
      rcases h3 with q | q <;> subst q
      · exact hb2.1
      · exact hb2.2
    · exact fold_step h2 hu hue hve L _ (fun e he => hL e (List.mem_cons_of_mem _ he)) (h.relax ha hb hj) (by
        rcases List.mem_cons.1 hm with q | q
        · exact absurd q g
        · exact q) (hs.keep h ha hb hj hu)
def Round (I : List (Int × Nat)) (out out' : List Nat) : Prop := ∃ L : List Int, (∀ e, e ∈ L ↔ ∃ u, (e, u) ∈ I) ∧ out' = L.foldl (relax I) out
inductive Rounds (I : List (Int × Nat)) (n : Nat) : Nat → List Nat → Prop
  | zero : Rounds I n 0 (List.range n)
  | succ {t : Nat} {out out' : List Nat} : Rounds I n t out → Round I out out' → Rounds I n (t + 1) out'
def cnt (p : Nat → Bool) : Nat → Nat
  | 0 => 0
  | n + 1 => cnt p n + if p n = true then 1 else 0
theorem cnt_le (p : Nat → Bool) : ∀ n, cnt p n ≤ n
  | 0 => Nat.le_refl _
  | n + 1 => by have := cnt_le p n; rw [cnt]; split <;> omega
theorem cnt_mono {p q : Nat → Bool} : ∀ n, (∀ v, v < n → p v = true → q v = true) → cnt p n ≤ cnt q n
  | 0, _ => Nat.le_refl _
  | n + 1, h => by
    have := cnt_mono n (fun v hv => h v (by omega))
    rw [cnt, cnt]
    by_cases g : p n = true
    · rw [if_pos g, if_pos (h n (by omega) g)]; omega
    · rw [if_neg g]; split <;> omega
theorem cnt_lt {p q : Nat → Bool} {v : Nat} (hp : p v = false) (hq : q v = true) : ∀ n, v < n → (∀ v, v < n → p v = true → q v = true) → cnt p n < cnt q n
  | 0, h, _ => absurd h (by omega)
  | n + 1, hv, h => by
    rw [cnt, cnt]
    by_cases e : v = n
    · subst e
      have := cnt_mono v (fun x hx => h x (by omega))
      rw [hp, hq]; simp; omega
    · have := cnt_lt hp hq n (by omega) (fun x hx => h x (by omega))
      by_cases g : p n = true
      · rw [if_pos g, if_pos (h n (by omega) g)]; omega
      · rw [if_neg g]; split <;> omega
theorem cnt_pos {p : Nat → Bool} {v : Nat} (hp : p v = true) : ∀ n, v < n → 1 ≤ cnt p n := by
  intro n hv
  have := cnt_lt (p := fun _ => false) (q := p) (v := v) rfl hp n hv (fun _ _ h => absurd h (by simp))
  omega
theorem range_fits (I : List (Int × Nat)) (n : Nat) : Fits I n (List.range n) := by
  have h : ∀ v, v < n → at_ (List.range n) v = v := fun v hv => by unfold at_; rw [List.getD_eq_getElem?_getD, List.getElem?_range hv]; rfl
  exact ⟨by simp, fun v hv => by rw [h v hv]; exact Nat.le_refl _, fun v hv => by rw [h v hv]⟩
theorem rounds_fits {I : List (Int × Nat)} {n : Nat} (h2 : Two I n) {t : Nat} {out : List Nat} (h : Rounds I n t out) : Fits I n out := by
  induction h with
  | zero => exact range_fits I n
  | succ _ hr ih =>
    obtain ⟨L, hL, rfl⟩ := hr
    exact (fold_keep h2 L _ (fun e he => (hL e).1 he) ih).1
theorem rounds_count {I : List (Int × Nat)} {n : Nat} (h2 : Two I n) {t : Nat} {out : List Nat} (h : Rounds I n t out) (m : Nat) (hm : m < n) (hmm : lbl I m = m) :
    (∀ v, v < n → lbl I v = m → Set_ I out v) ∨ t + 1 ≤ cnt (fun v => decide (lbl I v = m ∧ at_ out v = lbl I v)) n := by
  induction h with
  | zero =>
    refine .inr (cnt_pos (v := m) (decide_eq_true ⟨hmm, ?_⟩) n hm)
    have h := range_fits I n
    have := h.le m hm
    have := h.ge hm
    omega
  | @succ t out out' hr hro ih =>
    have hF := rounds_fits h2 hr
    obtain ⟨L, hL, rfl⟩ := hro
    have hk := fold_keep h2 L out (fun e he => (hL e).1 he) hF
    rcases ih with ih | ih
    · exact .inl fun v hv hvm => hk.2 v hv (ih v hv hvm)
    · by_cases hall : ∀ v, v < n → lbl I v = m → Set_ I out v
      · exact .inl fun v hv hvm => hk.2 v hv (hall v hv hvm)
      · refine .inr ?_
        have hcross : ∃ u v, J I u v ∧ u < n ∧ v < n ∧ lbl I u = m ∧ Set_ I out u ∧ ¬ Set_ I out v := by
          refine Classical.byContradiction fun hno => hall fun v hv hvm => Classical.byContradiction fun hs => ?_
          have hcl : ∀ u w, J I u w → ¬ (lbl I u = m ∧ Set_ I out u) → ¬ (lbl I w = m ∧ Set_ I out w) := by
            intro u w hj hnu hw
            obtain ⟨e, h1, h3⟩ := hj
            refine hno ⟨w, u, ⟨e, h3, h1⟩, h2.lt e w h3, h2.lt e u h1, hw.1, hw.2, fun hsu => hnu ⟨?_, hsu⟩⟩
            rw [lbl_one ⟨e, h1, h3⟩]; exact hw.1
          have := lbl_two hcl (v := v) (fun h => hs h.2)
          rw [hvm] at this
          refine this ⟨hmm, ?_⟩
          have h3 := hF.le m hm
          have h4 := hF.ge hm
          unfold Set_; omega
        obtain ⟨u, v, ⟨e, hue, hve⟩, hu, hv, hum, hsu, hsv⟩ := hcross
        have hsv2 := fold_step h2 hu hue hve L out (fun e he => (hL e).1 he) hF ((hL e).2 ⟨u, hue⟩) hsu
        have hvm : lbl I v = m := by rw [← hum]; exact (lbl_one ⟨e, hue, hve⟩).symm
        have := cnt_lt (p := fun v => decide (lbl I v = m ∧ at_ out v = lbl I v)) (q := fun v => decide (lbl I v = m ∧ at_ (L.foldl (relax I) out) v = lbl I v)) (v := v) (decide_eq_false fun h => hsv h.2) (decide_eq_true ⟨hvm, hsv2⟩) n hv (fun x hx hp => by
          have hp := of_decide_eq_true hp
          exact decide_eq_true ⟨hp.1, hk.2 x hx hp.2⟩)
        omega
theorem fits_eq {I : List (Int × Nat)} {n : Nat} {out : List Nat} (h : Fits I n out) (hs : ∀ v, v < n → Set_ I out v) : out = (List.range n).map (lbl I) := by
  apply List.ext_getElem
  · rw [h.len]; simp
  · intro v h1 h2
    have hv : v < n := by rw [← h.len]; exact h1
    have := hs v hv
    unfold Set_ at_ at this
    rw [List.getD_eq_getElem?_getD, List.getElem?_eq_getElem h1] at this
    simpa using this
theorem rounds_lbl {I : List (Int × Nat)} {n : Nat} (h2 : Two I n) {out : List Nat} (h : Rounds I n n out) : out = (List.range n).map (lbl I) := by
  have hF := rounds_fits h2 h
  refine fits_eq hF fun v hv => ?_
  rcases rounds_count h2 h (lbl I v) (Nat.lt_of_le_of_lt (lbl_le I v) hv) (lbl_idem I v) with hh | hh
  · exact hh v hv rfl
  · have := cnt_le (fun x => decide (lbl I x = lbl I v ∧ at_ out x = lbl I x)) n
    omega
theorem fixed_lbl {I : List (Int × Nat)} {n : Nat} (hlt : ∀ e u, (e, u) ∈ I → u < n) {out : List Nat} (hF : Fits I n out) (hj : ∀ u v, J I u v → at_ out u = at_ out v) : out = (List.range n).map (lbl I) := by
  refine fits_eq hF fun v hv => ?_
  have := lbl_two (I := I) (S := fun x => x < n ∧ at_ out x = at_ out v) (fun a b hab h => by
    obtain ⟨e, h1, h2⟩ := hab
    exact ⟨hlt e b h2, by rw [← h.2]; exact (hj a b ⟨e, h1, h2⟩).symm⟩) (v := v) ⟨hv, rfl⟩
  have h1 := hF.le _ this.1
  have h2 := hF.ge hv
  unfold Set_; omega
theorem mem_inc {legs : List Int} {forks : List (List Int)} {e : Int} {u : Nat} : (e, u) ∈ inc legs forks ↔ legs[u]? = some e ∨ (legs.length ≤ u ∧ ∃ f, forks[u - legs.length]? = some f ∧ e ∈ f) := by
  unfold inc
  rw [List.mem_append, List.mem_zipIdx_iff_getElem?, List.mem_flatMap]
  constructor
  · rintro (h | ⟨p, hp, he⟩)
    · exact .inl h
    · obtain ⟨e', he', hq⟩ := List.mem_map.1 he
      simp only [Prod.mk.injEq] at hq
      obtain ⟨rfl, rfl⟩ := hq
      obtain ⟨f, q⟩ := p
      have := List.mk_mem_zipIdx_iff_le_and_getElem?_sub.1 hp
      exact .inr ⟨this.1, f, this.2, he'⟩
  · rintro (h | ⟨h1, f, hf, he⟩)
    · exact .inl h
    · exact .inr ⟨(f, u), List.mk_mem_zipIdx_iff_le_and_getElem?_sub.2 ⟨h1, hf⟩, List.mem_map.2 ⟨e, he, rfl⟩⟩
theorem inc_lt {legs : List Int} {forks : List (List Int)} {e : Int} {u : Nat} (h : (e, u) ∈ inc legs forks) : u < legs.length + forks.length := by
  rcases mem_inc.1 h with h | ⟨h1, f, hf, _⟩
  · have := (List.getElem?_eq_some_iff.1 h).1; omega
  · have := (List.getElem?_eq_some_iff.1 hf).1; omega
def twiceB (legs : List Int) (forks : List (List Int)) : Bool := (inc legs forks).all fun p => decide (0 ≤ p.1 ∧ p.1 ≤ 1000) && (ends (inc legs forks) p.1).length == 2
noncomputable def rootedB (legs : List Int) (forks : List (List Int)) : Bool := (List.range (legs.length + forks.length)).all fun v => decide (lbl (inc legs forks) v < legs.length)
noncomputable def isWebB (legs : List Int) (forks : List (List Int)) : Bool := decide (legs.length + forks.length ≤ 8) && (forks.all fun f => f.length == 3) && twiceB legs forks && rootedB legs forks
theorem twice_two {legs : List Int} {forks : List (List Int)} (h : twiceB legs forks = true) : Two (inc legs forks) (legs.length + forks.length) := by
  refine ⟨fun e u he => ?_, fun e u he => inc_lt he⟩
  have := List.all_eq_true.1 h _ he
  simp only [Bool.and_eq_true, beq_iff_eq] at this
  exact this.2
end Go.Proofs.Ytnlhhbnoccobmaa.Web
end
section
namespace Go.Proofs.Ytnlhhbnoccobmaa.Web
open Go.RowKit Go.ChangeShapes Go.Proofs.Ytnlhhbnoccobmaa.Mem
set_option linter.unusedVariables false
set_option linter.unusedSimpArgs false
def keyL (e : Int) : Lit := .int .i64 e
def valD (l : List Nat) : DataW Unit := .slice (lits .i64 (ints l)) []
theorem ends_snoc (L : List (Int × Nat)) (e' e : Int) (u : Nat) : ends (L ++ [(e', u)]) e = if e' = e then ends L e ++ [u] else ends L e := by
  unfold ends
  rw [List.filter_append, List.map_append]
  by_cases h : e' = e
  · rw [if_pos h, List.filter_cons_of_pos (by simpa using h)]; rfl
  · rw [if_neg h, List.filter_cons_of_neg (by simpa using h)]; simp
theorem take_snocD {α : Type} (I : List α) (p : Nat) (d : α) (h : p < I.length) : I.take (p + 1) = I.take p ++ [I.getD p d] := by
  rw [List.take_succ_eq_append_getElem h, List.getD_eq_getElem?_getD, List.getElem?_eq_getElem h]; rfl
def GTo (I : List (Int × Nat)) : Nat → DataW Unit
  | 0 => .map []
  | p + 1 => (GTo I p).put (keyL (I.getD p (0, 0)).1) (valD (ends (I.take (p + 1)) (I.getD p (0, 0)).1))
theorem GTo_isMap (I : List (Int × Nat)) : ∀ p, Maps.IsMap (GTo I p)
  | 0 => Maps.isMap_empty
  | p + 1 => (GTo_isMap I p).put _ _
theorem key_ne {e e' : Int} (h : e ≠ e') : keyL e ≠ keyL e' := fun g => h (by unfold keyL at g; injection g)
theorem GTo_at (I : List (Int × Nat)) (e : Int) (z : DataW Unit) : ∀ p, p ≤ I.length → (GTo I p).atKey (keyL e) z = if ends (I.take p) e = [] then z else valD (ends (I.take p) e)
  | 0, _ => rfl
  | p + 1, hp => by
    have ih := GTo_at I e z p (by omega)
    rw [GTo]
    obtain ⟨⟨e', u⟩, hq⟩ : ∃ q, q = I.getD p (0, 0) := ⟨_, rfl⟩
    have ht := take_snocD I p (0, 0) (by omega)
    rw [← hq] at ht ⊢
    by_cases h : e' = e
    · subst h
      rw [Maps.atKey_put_same (GTo_isMap I p) (show WideAt.IsKeyLit (keyL e') from trivial), ht, ends_snoc, if_pos rfl, if_neg (by simp)]
    · rw [Maps.atKey_put_other (key_ne (Ne.symm h)), ih, ht, ends_snoc, if_neg h]
theorem GTo_has (I : List (Int × Nat)) (e : Int) : ∀ p, p ≤ I.length → Maps.has (GTo I p) (keyL e) = !(ends (I.take p) e).isEmpty
  | 0, _ => rfl
  | p + 1, hp => by
    have ih := GTo_has I e p (by omega)
    rw [GTo]
    obtain ⟨⟨e', u⟩, hq⟩ : ∃ q, q = I.getD p (0, 0) := ⟨_, rfl⟩
    have ht := take_snocD I p (0, 0) (by omega)
    rw [← hq] at ht ⊢
    by_cases h : e' = e
    · subst h
      rw [Maps.has_put_same (GTo_isMap I p) (show WideAt.IsKeyLit (keyL e') from trivial), ht, ends_snoc, if_pos rfl]; simp
    · rw [Maps.has_put_other (key_ne (Ne.symm h)), ih, ht, ends_snoc, if_neg h]
theorem lits_inj {l m : List Int} (h : (lits .i64 l : List (DataW Unit)) = lits .i64 m) : l = m := (List.map_inj_right (fun a b hab => by injection hab with hab; injection hab)).1 h
theorem GTo_zs {w : World} {base e0 : Nat} {v : Value} {zs : List Int} {I : List (Int × Nat)} {p : Nat} {e : Int} (hp : p ≤ I.length) (hoi : w.ownsInts base e0 .i64 v zs) (hat : (GTo I p).atKey (keyL e) .nil = rowDatum .i64 v zs) : zs = ints (ends (I.take p) e) := by
  rw [GTo_at I e .nil p hp] at hat
  by_cases h : ends (I.take p) e = []
  · rw [if_pos h] at hat
    rcases hoi.datum (H := Unit) with ⟨_, h0⟩ | h1
    · rw [h0, h]; rfl
    · rw [h1] at hat; cases hat
  · rw [if_neg h] at hat
    rcases hoi.datum (H := Unit) with ⟨h1, _⟩ | h1
    · rw [h1] at hat; cases hat
    · rw [h1] at hat
      unfold valD at hat
      injection hat with hat _
      exact (lits_inj hat).symm
theorem GTo_step {w : World} {base e0 : Nat} {v' : Value} {zs : List Int} {I : List (Int × Nat)} {p : Nat} {e : Int} {u : Nat} (hp : p < I.length) (hI : I.getD p (0, 0) = (e, u)) (hz : zs = ints (ends (I.take p) e)) (hoi : w.ownsInts base e0 .i64 v' (zs ++ [(u : Int)])) : GTo I (p + 1) = (GTo I p).put (keyL e) (rowDatum .i64 v' (zs ++ [(u : Int)])) := by
  rw [GTo, hI, hoi.datum_pos (by simp), take_snocD I p (0, 0) hp, hI]
  unfold valD
  rw [ends_snoc, if_pos rfl, ints_app, hz]; rfl
def freshFrom (I : List (Int × Nat)) : Nat → Nat → Nat
  | 0, x => x
  | n + 1, x => if ends I (x : Int) = [] then x else freshFrom I n (x + 1)
def freshN (I : List (Int × Nat)) : Nat := freshFrom I 1001 0
theorem freshFrom_spec (I : List (Int × Nat)) : ∀ n x, x ≤ freshFrom I n x ∧ freshFrom I n x ≤ x + n ∧ (∀ y, x ≤ y → y < freshFrom I n x → ends I (y : Int) ≠ []) ∧ (freshFrom I n x < x + n → ends I (freshFrom I n x : Int) = [])
  | 0, x => by
    rw [freshFrom]
    exact ⟨Nat.le_refl _, Nat.le_refl _, fun y h1 h2 => by omega, fun h => by omega⟩
  | n + 1, x => by
    rw [freshFrom]
    by_cases h : ends I (x : Int) = []
    · rw [if_pos h]; exact ⟨Nat.le_refl _, by omega, fun y h1 h2 => by omega, fun _ => h⟩
    · rw [if_neg h]
      obtain ⟨h1, h2, h3, h4⟩ := freshFrom_spec I n (x + 1)
      refine ⟨by omega, by omega, fun y g1 g2 => ?_, fun g => h4 (by omega)⟩
      by_cases e : y = x
      · rw [e]; exact h
      · exact h3 y (by omega) g2
theorem freshN_spec {I : List (Int × Nat)} (h : ∀ p ∈ I, p.1 ≤ 1000) : freshN I ≤ 1001 ∧ ends I (freshN I : Int) = [] ∧ ∀ y, y < freshN I → ends I (y : Int) ≠ [] := by
  obtain ⟨_, h2, h3, h4⟩ := freshFrom_spec I 1001 0
  refine ⟨by unfold freshN; omega, ?_, fun y hy => h3 y (Nat.zero_le _) hy⟩
  by_cases g : freshFrom I 1001 0 < 0 + 1001
  · exact h4 g
  · have e : freshN I = 1001 := by unfold freshN; omega
    rw [e]
    cases q : ends I ((1001 : Nat) : Int) with
    | nil => rfl
    | cons u r =>
      have := h _ (mem_ends.1 (show u ∈ ends I ((1001 : Nat) : Int) by rw [q]; simp))
      simp at this
theorem look_none {w : World} {base e0 : Nat} {v : Value} {zs : List Int} {I : List (Int × Nat)} {e : Int} (hoi : w.ownsInts base e0 .i64 v zs) (hat : (GTo I I.length).atKey (keyL e) .nil = rowDatum .i64 v zs) (h : ends I e = []) : v = .slice none 0 0 := by
  rw [GTo_at I e .nil _ (Nat.le_refl _), List.take_length, if_pos h] at hat
  rcases hoi.1.2 with ⟨hv, _⟩ | ⟨g, cap, cur, rfl, _⟩
  · exact hv
  · cases hat
theorem look_some {w : World} {base e0 : Nat} {v : Value} {zs : List Int} {I : List (Int × Nat)} {e : Int} (hoi : w.ownsInts base e0 .i64 v zs) (hat : (GTo I I.length).atKey (keyL e) .nil = rowDatum .i64 v zs) (h : ends I e ≠ []) : ∃ g cap, v = .slice (some ⟨g, 0, none⟩) (ends I e).length cap := by
  have hz := GTo_zs (Nat.le_refl _) hoi hat
  rw [List.take_length] at hz
  rcases hoi.1.2 with ⟨rfl, h0⟩ | ⟨g, cap, cur, rfl, _⟩
  · rw [List.length_eq_zero_iff.1 h0] at hz
    have := congrArg List.length hz
    rw [ints_len] at this
    exact absurd (List.length_eq_zero_iff.1 this.symm) h
  · refine ⟨g, cap, ?_⟩
    rw [hz, ints_len]
theorem inc_leg {legs : List Int} {forks : List (List Int)} {k : Nat} (h : k < legs.length) : (inc legs forks).getD k (0, 0) = (legs.getD k 0, k) := by
  unfold inc
  rw [List.getD_eq_getElem?_getD, List.getElem?_append_left (by simpa using h), List.getElem?_zipIdx, List.getElem?_eq_getElem h, List.getD_eq_getElem?_getD, List.getElem?_eq_getElem h]; simp
theorem flat3 : ∀ (F : List (List Int)) (s i k : Nat), (∀ f ∈ F, f.length = 3) → i < F.length → k < 3 → ((F.zipIdx s).flatMap fun p => p.1.map fun e => (e, p.2))[3 * i + k]? = some ((F.getD i []).getD k 0, s + i)
  | [], _, i, _, _, h, _ => absurd h (by simp)
  | f :: F, s, 0, k, h3, _, hk => by
    have hf := h3 f List.mem_cons_self
    rw [List.zipIdx_cons, List.flatMap_cons, List.getElem?_append_left (by simp; omega)]
    rw [List.getElem?_map, List.getElem?_eq_getElem (by simp; omega)]
    simp [List.getElem?_eq_getElem (show k < f.length from by omega)]
  | f :: F, s, i + 1, k, h3, hi, hk => by
    have hf := h3 f List.mem_cons_self
    rw [List.zipIdx_cons, List.flatMap_cons, List.getElem?_append_right (by simp; omega)]
    have := flat3 F (s + 1) i k (fun g hg => h3 g (List.mem_cons_of_mem _ hg)) (by simpa using hi) hk
    rw [show 3 * (i + 1) + k - (List.map (fun e => (e, (f, s).2)) (f, s).1).length = 3 * i + k from by simp; omega, this]
    simp; omega
theorem inc_fork {legs : List Int} {forks : List (List Int)} {i k : Nat} (h3 : ∀ f ∈ forks, f.length = 3) (hi : i < forks.length) (hk : k < 3) : (inc legs forks).getD (legs.length + 3 * i + k) (0, 0) = ((forks.getD i []).getD k 0, legs.length + i) := by
  unfold inc
  rw [List.getD_eq_getElem?_getD, List.getElem?_append_right (by simp; omega), show legs.length + 3 * i + k - legs.zipIdx.length = 3 * i + k from by simp; omega, flat3 forks legs.length i k h3 hi hk]; rfl
theorem inc_len {legs : List Int} {forks : List (List Int)} (h3 : ∀ f ∈ forks, f.length = 3) : (inc legs forks).length = legs.length + 3 * forks.length := by
  have : ∀ (F : List (List Int)) (s : Nat), (∀ f ∈ F, f.length = 3) → ((F.zipIdx s).flatMap fun p => p.1.map fun e => (e, p.2)).length = 3 * F.length := by
    intro F
    induction F with
    | nil => intro _ _; rfl
    | cons f F ih => intro s h; rw [List.zipIdx_cons, List.flatMap_cons, List.length_append, ih (s + 1) (fun g hg => h g (List.mem_cons_of_mem _ hg)), List.length_map, h f List.mem_cons_self, List.length_cons]; omega
  unfold inc
  rw [List.length_append, this forks legs.length h3, List.length_zipIdx]
theorem wf_at {I : List (Int × Nat)} (h : ∀ p ∈ I, (Lit.int .i64 p.1).wf = true) {p : Nat} (hp : p < I.length) : (Lit.int .i64 (I.getD p (0, 0)).1).wf = true := by
  refine h _ ?_
  rw [List.getD_eq_getElem?_getD, List.getElem?_eq_getElem hp]; exact List.getElem_mem _
end Go.Proofs.Ytnlhhbnoccobmaa.Web
end
section
namespace Go.Proofs.Ytnlhhbnoccobmaa.Web
set_option linter.unusedVariables false
set_option linter.unusedSimpArgs false
def roundC (I : List (Int × Nat)) (out : List Nat) : List Nat := (I.map fun p => p.1).foldl (relax I) out
def partsC (I : List (Int × Nat)) (n : Nat) : Nat → List Nat
  | 0 => List.range n
  | t + 1 => roundC I (partsC I n t)
theorem partsC_rounds (I : List (Int × Nat)) (n : Nat) : ∀ t, Rounds I n t (partsC I n t)
  | 0 => .zero
  | t + 1 => .succ (partsC_rounds I n t) ⟨_, fun e => by
      rw [List.mem_map]
      exact ⟨fun ⟨p, hp, he⟩ => ⟨p.2, by rw [← he]; exact hp⟩, fun ⟨u, hu⟩ => ⟨_, hu, rfl⟩⟩, rfl⟩
theorem partsC_lbl {I : List (Int × Nat)} {n : Nat} (h : Two I n) : partsC I n n = (List.range n).map (lbl I) := rounds_lbl h (partsC_rounds I n n)
def isWebC (legs : List Int) (forks : List (List Int)) : Bool := decide (legs.length + forks.length ≤ 8) && (forks.all fun f => f.length == 3) && twiceB legs forks && (partsC (inc legs forks) (legs.length + forks.length) (legs.length + forks.length)).all fun r => decide (r < legs.length)
theorem isWebC_eq (legs : List Int) (forks : List (List Int)) : isWebC legs forks = isWebB legs forks := by
  unfold isWebC isWebB
  cases ht : twiceB legs forks with
  | false => simp
  | true =>
    rw [partsC_lbl (twice_two ht), List.all_map]
    rfl
theorem web_of {legs : List Int} {forks : List (List Int)} (h : isWebC legs forks = true) : legs.length + forks.length ≤ 8 ∧ (∀ f ∈ forks, f.length = 3) ∧ twiceB legs forks = true ∧ rootedB legs forks = true := by
  rw [isWebC_eq] at h
  unfold isWebB at h
  simp only [Bool.and_eq_true, decide_eq_true_eq] at h
  exact ⟨h.1.1.1, fun f hf => eq_of_beq (List.all_eq_true.1 h.1.1.2 f hf), h.1.2, h.2⟩
end Go.Proofs.Ytnlhhbnoccobmaa.Web
end
section
namespace Go.Proofs.Ytnlhhbnoccobmaa.F
section
open Go.RowKit Go.Proofs.YtnlhhbnoccobmaaW.PrintWords Go.Proofs.YtnlhhbnoccobmaaW.PrintLast Go.Proofs.YtnlhhbnoccobmaaW.PrintMore
attribute [local go_sem] max2_int min2_int max_two min_two max_three min_three max_four min_four   
set_option linter.unusedVariables false
set_option linter.unusedSimpArgs false
open Go.Proofs.Ytnlhhbnoccobmaa.Mem Go.Proofs.Ytnlhhbnoccobmaa.Web Go.Maps
theorem webKey : Keyed Try.prog 2 := int_keyed Try.underlying2
theorem webZero (w : World) : (zeroValue 83).run Try.prog w = .ok (.slice none 0 0) w := by kernel_rfl
theorem info_webint : (Try.prog.info? 3).map (fun i => (i.zero, i.size, i.bytes)) = some (some (.int .i64 0), 1, 8) := by kernel_rfl
theorem row_of_C {e n : Nat} {w : World} {A : Option Addr} {rows : List (List Int)} (h : Kd.C (Kd.slice e (Kd.int .i64)) w A n rows) (j : Nat) (hj : j < n) : ∃ ad Aa ca, A = some ad ∧ w.cell? (ad.add j) = some (.slice Aa (rows.getD j []).length ca) ∧ (rows.getD j []).length ≤ ca ∧ Kd.C (Kd.int .i64) w Aa (rows.getD j []).length (rows.getD j []) := by
 obtain ⟨hl, _, hc⟩ := h
 obtain ⟨ad, rfl, hc2⟩ := hc (by omega)
 have hjl : j < rows.length := by omega
 obtain ⟨c, hcl, ⟨Aa, ca, rfl, hle, hC⟩, hcell⟩ := hc2 j _ (List.getElem?_eq_getElem hjl)
 have h0 := hcell 0 _ rfl
 rw [show (Kd.slice e (Kd.int .i64)).sz = 1 from rfl, Nat.mul_one, Nat.add_zero] at h0
 have hg : rows.getD j [] = rows[j] := by rw [List.getD_eq_getElem?_getD, List.getElem?_eq_getElem hjl]; rfl
 rw [hg]
 exact ⟨ad, Aa, ca, rfl, h0, hle, hC⟩
theorem step_append_own_at {P : Program} {ops : Array Oper} {o : Oper} {a : Act} {w : World} {K : Act → World → Prop} {Q : Exit → Act → World → Prop} {E : Prop} (hgd : o.guard = none) (s x : Operand) (t : TypeId)
  (ho : o.op = .call { callee := .builtin .append, args := #[s, x], argTypes := #[t, t] })
  (base : Nat) (e : TypeId) (i : TypeInfo) (z : Value) (size bytes : Nat) (ht : P.underlying t = some (.slice e)) (hi : P.info? e = some i) (hz : i.zero = some z)
  (hsize : i.size = size) (hby : i.bytes = bytes) (hzs : z.cells.size = size) (hsz : 0 < size)
  (v : Value) (n : Nat) (xs : List Value) (hs : a.eval s = v) (hown : w.ownsRow base e size v n xs)
  (ad : Addr) (m c : Nat) (news : List Value) (hx : a.eval x = .slice (some ad) m c) (hl : news.length = m * size) (hnews : ∀ j u, news[j]? = some u → w.cell? (ad.add j) = some u) (h1 : ∀ u ∈ news, u.oneCell' = true)
  (h63 : n + m ≤ maxLen) (hbytes : (n + m) * bytes ≤ 140737488355328) (hbase : base ≤ w.heap.size)
  (h : ∀ v' w', w'.ownsRow base e size v' (n + m) (xs ++ news) → w.grownBy w' v.ownBlock → (v' = .slice none 0 0 ↔ v = .slice none 0 0 ∧ m = 0) → (v'.ownBlock = v.ownBlock ∨ v'.ownBlock = some w.heap.size) → K (a.put o.dst v') w') :
  if Region.wanted o (yielded ops a.tmps) = true then Oper.wp P o a w K Q else E := by
 have hw : Region.wanted o (yielded ops a.tmps) = true := by simp [Region.wanted, hgd]
 rw [if_pos hw]
 obtain ⟨v', w', hr, h2, h3, h4, h5⟩ := run_append_own_at (P := P) (w := w) base t o.type e i z size bytes ht hi hz hsize hby hzs hsz v n xs hown ad m c news hl hnews h1 h63 hbytes hbase
 unfold Oper.wp execOp
 simp only [ho, resolve, invoke, builtin, Sem.run_bind, Sem.run_pure, Result.andThen_ok, List.map_toArray, List.map_cons, List.map_nil, hs, hx, hr]
 exact h v' w' h2 h3 h4 h5
set_option maxHeartbeats 4000000 in
set_option maxRecDepth 100000 in
theorem stands_walk (legs : List Int) (forks : List (List Int)) (Bw : Nat) (Al : Option Addr) (cl : Nat) (Af : Option Addr) (cf : Nat) (h8 : legs.length + forks.length ≤ 8) (h3 : ∀ f ∈ forks, f.length = 3) (hwf : ∀ p ∈ inc legs forks, (Lit.int .i64 p.1).wf = true) (w : World)
  (hb : w.heap[Bw]? = some (.cells #[.slice Al legs.length cl, .slice Af forks.length cf] 28 (0, 0))) (hl : Kd.C (Kd.int .i64) w Al legs.length legs) (hf : Kd.C (Kd.slice 2 (Kd.int .i64)) w Af forks.length forks) :
  Calls Try.prog 96 #[.pointer (some ⟨Bw, 0, none⟩)] w fun e w' => e = .returned (.map (some w.heap.size)) ∧ w'.ownsGroups (H := Unit) Try.prog 2 (w.heap.size + 1) 3 .i64 w.heap.size (inc legs forks).length (GTo (inc legs forks) (inc legs forks).length) ∧ Below w.heap.size w w' := by
 have hmm := @run_makeMap Try.prog
 obtain ⟨i0, hi, hz0, hz1, hz2⟩ := info_parts info_webint
 obtain ⟨nl, hnl⟩ : ∃ nl, nl = legs.length := ⟨_, rfl⟩
 obtain ⟨nf, hnf⟩ : ∃ nf, nf = forks.length := ⟨_, rfl⟩
 obtain ⟨I, hI⟩ : ∃ I, I = inc legs forks := ⟨_, rfl⟩
 have hIl : I.length = nl + 3 * nf := by rw [hI, inc_len h3, hnl, hnf]
 have hleg : ∀ k, k < nl → I.getD k (0, 0) = (legs.getD k 0, k) := fun k hk => by rw [hI]; exact inc_leg (by omega)
 have hfork : ∀ i k, i < nf → k < 3 → I.getD (nl + 3 * i + k) (0, 0) = ((forks.getD i []).getD k 0, nl + i) := fun i k hi hk => by rw [hI, hnl]; exact inc_fork h3 (by omega) hk
 have hwI : ∀ p, p < I.length → (Lit.int .i64 (I.getD p (0, 0)).1).wf = true := fun p hp => by rw [hI] at hp ⊢; exact wf_at hwf hp
 have hcb := blk_cell hb
 have hn8 : nl + nf ≤ 8 := by omega
 rw [← hnl] at hl
 rw [← hnf] at hf
 rw [← hnl, ← hnf] at hb
 rw [← hI]
 have H3 := Aside0.mk h3
 have HIL := Aside0.mk hIl
 have HLEG := Aside0.mk hleg
 have HFORK := Aside0.mk hfork
 have HWI := Aside0.mk hwI
 have HL := Aside0.mk hl
 have HF := Aside0.mk hf
 have HBK := Aside0.mk hb
 have HNF := Aside0.mk hnf
 have c0 : (w.alloc (.map #[] 0)).cell? ⟨Bw, 0, none⟩ = some (.slice Al nl cl) := (blk_cell (blk_alloc hb _) 0).trans rfl
 have HSTART := Aside0.mk (World.ownsGroups_made (H := Unit) w Try.prog 2 3 .i64)
 clear h8 h3 hwf hl hf hb hIl hleg hfork hwI hcb hI hnl hnf
 go_enter Try.func96, Try.ntmps96
 go_wp2
 go_loopw [16] (fun s16 wr => ∃ k : Nat, s16 = .int .i64 (k : Int) ∧ Aside0 (k ≤ nl) ∧ Aside0 (wr.ownsGroups (H := Unit) Try.prog 2 (w.heap.size + 1) 3 .i64 w.heap.size k (GTo I k)) ∧ Aside0 (Below w.heap.size w wr) ∧ Aside0 (w.heap.size + 1 ≤ wr.heap.size))
  (fun s16 _ => nl - (intOf s16).toNat)
 case atStart => exact ⟨0, rfl, ⟨Nat.zero_le _⟩, HSTART, ⟨(Below.refl _ _).alloc (Nat.le_refl _) _⟩, ⟨by simp⟩⟩
 case round =>
  clear HSTART c0 hmm
  obtain ⟨k, rfl, HK, HO, HB, HS⟩ := hrel
  by_cases hlt : k < nl
  ·have t1 : decide ((k : Int) < (nl : Int)) = true := decide_eq_true (by omega)
   have t2 : decide (k < nl) = true := decide_eq_true hlt
   have HLT := Aside0.mk hlt
   have hIk := HLEG.out k hlt
   have hwk := HWI.out k (by rw [HIL.out]; omega)
   rw [hIk] at hwk
   obtain ⟨ad, ead, hcell⟩ := cell_of_C (Kd.C_below HL.out HB.out) k hlt
   subst ead
   obtain ⟨e, he⟩ : ∃ e, e = legs.getD k 0 := ⟨_, rfl⟩
   rw [← he] at hcell hIk hwk
   have hkey := keyOf_int_mk Try.underlying2 hwk
   have HIK := Aside0.mk hIk
   clear he hIk hwk
   have hs := HS.out
   go_wp2_with (first
    | (at_lookup; refine wpList_lookup_groups _ rfl _ _ 81 rfl 2 83 3 .i64 webKey Try.underlying81 (webZero _) (w.heap.size + 1) w.heap.size k _ rfl HO.out (by unfold maxLen; omega) _ _ rfl hkey ?_; intro v zs hat hoi hzl hback)
    | (at_builtin; refine wpList_append_own_at _ rfl _ _ 83 rfl (w.heap.size + 1) 3 i0 (.int .i64 0) 1 8 Try.underlying83 hi hz0 hz1 hz2 rfl (by decide) _ _ _ rfl (hoi.1.alloc _) ⟨wr.heap.size, 0, none⟩ 1 1 [.int .i64 (k : Int)] rfl rfl (cell_one_new _ _ _) (ints_oneCell .i64 [(k : Int)]) (by unfold maxLen; omega) (by omega) (by simp; omega) ?_; intro v' w1 hown' hgrow hnil hloc)
    | (at_mapUpdate; refine wpList_mapUpdate_back _ rfl _ _ _ 81 rfl hback rfl rfl rfl ((World.grownBy_alloc _ _ _).trans hgrow) (hoi.appended hown' (WalkArith.wf_i64 (by omega))) (by simp; omega) (hloc.imp id (fun h => ⟨_, h, by simp⟩)) ?_; intro w2 hown2 hgrow2)
    | go_in)
   have hall := (World.grownBy_alloc wr _ _).trans hgrow
   go_roundw
   case rel =>
    have hz := GTo_zs (I := I) (p := k) (by rw [HIL.out]; omega) hoi hat
    refine ⟨k + 1, (by first | rfl | exact congrArg _ (wS (by omega))), ⟨HLT.out⟩, ⟨?_⟩, ⟨HB.out.groups hoi hall hgrow2 HB.out.size (Nat.le_succ _) (Nat.le_refl _)⟩, ⟨Nat.le_trans HS.out (Nat.le_trans hall.size hgrow2.size)⟩⟩
    rw [GTo_step (by rw [HIL.out]; omega) HIK.out hz (hoi.appended hown' (WalkArith.wf_i64 (by omega)))]
    exact hown2
   case measure => (try rw [wS (by omega)]); simp [intOf]; omega
  ·have t1 : decide ((k : Int) < (nl : Int)) = false := decide_eq_false (by omega)
   have t2 : decide (k < nl) = false := decide_eq_false hlt
   have hk : k = nl := by have := HK.out; omega
   subst hk
   clear hlt HK
   have c1 : wr.cell? ⟨Bw, 1, none⟩ = some (.slice Af nf cf) := (blk_cell (blk_below HBK.out HB.out) 1).trans rfl
   go_wp2_with fail
   clear c1
   go_loopw [35] (fun s35 wr => ∃ i : Nat, s35 = .int .i64 (i : Int) ∧ Aside0 (i ≤ nf) ∧ Aside0 (wr.ownsGroups (H := Unit) Try.prog 2 (w.heap.size + 1) 3 .i64 w.heap.size (k + 3 * i) (GTo I (k + 3 * i))) ∧ Aside0 (Below w.heap.size w wr) ∧ Aside0 (w.heap.size + 1 ≤ wr.heap.size))
    (fun s35 _ => nf - (intOf s35).toNat)
   case atStart => exact ⟨0, rfl, ⟨Nat.zero_le _⟩, HO, HB, HS⟩
   case round =>
    clear HO HB HS
    obtain ⟨i, rfl, HI, HO, HB, HS⟩ := hrel
    by_cases hi2 : i < nf
    ·have t3 : decide ((i : Int) < (nf : Int)) = true := decide_eq_true (by omega)
     have t4 : decide (i < nf) = true := decide_eq_true hi2
     have HIN := Aside0.mk hi2
     obtain ⟨ad, Aa, ca, ead, hrow0, hca, hCa⟩ := row_of_C HF.out i hi2
     subst ead
     have hrow := (HB.out.cell (World.block_lt_of_cell? w _ hrow0)).trans hrow0
     have hl3 : (forks.getD i []).length = 3 := H3.out _ (by rw [List.getD_eq_getElem?_getD, List.getElem?_eq_getElem (by rw [← HNF.out]; exact hi2)]; exact List.getElem_mem _)
     rw [hl3] at hrow hCa
     obtain ⟨fk, hfk⟩ : ∃ fk, fk = forks.getD i [] := ⟨_, rfl⟩
     rw [← hfk] at hCa hl3
     have HFK := Aside0.mk hfk
     obtain ⟨ad2, ead2, _⟩ := cell_of_C hCa 0 (by omega)
     subst ead2
     have HCA := Aside0.mk hCa
     clear hfk hl3 hCa hrow0
     go_wp2_with fail
     clear hrow
     go_loopw [42] (fun s42 wr => ∃ j : Nat, s42 = .int .i64 (j : Int) ∧ Aside0 (j ≤ 3) ∧ Aside0 (wr.ownsGroups (H := Unit) Try.prog 2 (w.heap.size + 1) 3 .i64 w.heap.size (k + 3 * i + j) (GTo I (k + 3 * i + j))) ∧ Aside0 (Below w.heap.size w wr) ∧ Aside0 (w.heap.size + 1 ≤ wr.heap.size))
      (fun s42 _ => 3 - (intOf s42).toNat)
     case atStart => exact ⟨0, rfl, ⟨Nat.zero_le _⟩, HO, HB, HS⟩
     case round =>
      clear HO HB HS
      obtain ⟨j, rfl, HJ, HO, HB, HS⟩ := hrel
      by_cases hj : j < 3
      ·have t5 : decide ((j : Int) < (3 : Int)) = true := decide_eq_true (by omega)
       have t6 : decide (j < 3) = true := decide_eq_true hj
       have HJ3 := Aside0.mk hj
       have hIk := HFORK.out i j hi2 hj
       have hpl : k + 3 * i + j < I.length := by rw [HIL.out]; omega
       have hwk := HWI.out _ hpl
       rw [hIk, ← HFK.out] at hwk
       rw [← HFK.out] at hIk
       obtain ⟨ad3, ead3, hcell0⟩ := cell_of_C HCA.out j hj
       obtain rfl := Option.some.inj ead3
       have hcell := (HB.out.cell (World.block_lt_of_cell? w _ hcell0)).trans hcell0
       obtain ⟨e, he⟩ : ∃ e, e = fk.getD j 0 := ⟨_, rfl⟩
       rw [← he] at hcell hIk hwk
       have hkey := keyOf_int_mk Try.underlying2 hwk
       have HIK := Aside0.mk hIk
       have HPL := Aside0.mk hpl
       have hs := HS.out
       have c2 : wr.cell? ⟨Bw, 0, none⟩ = some (.slice Al k cl) := (blk_cell (blk_below HBK.out HB.out) 0).trans rfl
       have hod : (wr.drew).ownsGroups (H := Unit) Try.prog 2 (w.heap.size + 1) 3 .i64 w.heap.size (k + 3 * i + j) (GTo I (k + 3 * i + j)) := HO.out
       obtain ⟨U, hUU⟩ : ∃ U : Nat, U = k + i := ⟨_, rfl⟩
       have hu : IntKind.i64.wrap ((k : Int) + (i : Int)) = (U : Int) := by rw [i64_w]; unfold wrap64; omega
       have HU := Aside0.mk hUU
       have hoe : ((wr.alloc (.cells #[.int .i64 (U : Int)] 3)).drew).ownsGroups (H := Unit) Try.prog 2 (w.heap.size + 1) 3 .i64 w.heap.size (k + 3 * i + j) (GTo I (k + 3 * i + j)) := hod.kept (World.grownBy_alloc wr.drew _ none) (by simp) (fun es clock _ x _ => by cases x.val.ownBlock <;> simp)
       obtain ⟨va, za, hra, hata, hoia, hzla, hbacka⟩ := hod.at webKey Try.underlying81 (webZero _) (by unfold maxLen; omega) hkey
       obtain ⟨vb, zb, hrb, hatb, hoib, hzlb, hbackb⟩ := hoe.at webKey Try.underlying81 (webZero _) (by unfold maxLen; omega) hkey
       have HATA := Aside0.mk hata
       have HATB := Aside0.mk hatb
       have HBKA := Aside0.mk hbacka
       have HBKB := Aside0.mk hbackb
       have HOIA := Aside0.mk hoia
       have HOIB := Aside0.mk hoib
       clear hata hatb hbacka hbackb hoia hoib hod hoe he hIk hwk hcell0 hpl hUU
       go_wp2_with fail
       go_region_law (first
        | (refine step_append_own_at rfl (.tmp 50) (.tmp 58) 83 rfl (w.heap.size + 1) 3 i0 (.int .i64 0) 1 8 Try.underlying83 hi hz0 hz1 hz2 rfl (by decide) va za.length (za.map (Value.int .i64)) ?s (HOIA.out.1.alloc _) ⟨wr.heap.size, 0, none⟩ 1 1 [.int .i64 (U : Int)] (by simp [Act.eval, Act.put]) rfl (cell_one_new wr _ _) (ints_oneCell .i64 [(U : Int)]) (by unfold maxLen; omega) (by omega) (by simp; omega) ?_; (case s => (simp [Act.eval, Act.put]; done)); intro v' w1 hown' hgrow hnil hloc; have HOA := Aside0.mk (HOIA.out.appended (x := (U : Int)) (w1 := w1) hown' (WalkArith.wf_i64 (by have := HU.out; omega))); obtain ⟨w2, hrun2, hown2, hg2⟩ := HBKA.out w1 v' (za ++ [(U : Int)]) ((World.grownBy_alloc wr.drew _ _).trans hgrow) HOA.out (by simp; omega) (hloc.imp id (fun h => ⟨_, h, by simp⟩)); have HZ := Aside0.mk (GTo_zs (I := I) (p := k + 3 * i + j) (by have := HPL.out; omega) HOIA.out HATA.out); have HOW2 := Aside0.mk hown2; have HBB2 := Aside0.mk ((below_drew HB.out).groups HOIA.out ((World.grownBy_alloc wr.drew _ _).trans hgrow) hg2 HB.out.size (Nat.le_succ _) (Nat.le_refl _)); have HSZ2 := Aside0.mk (Nat.le_trans (show wr.heap.size ≤ w1.heap.size from Nat.le_trans (by simp) hgrow.size) hg2.size); have HST := Aside0.mk (GTo_step (I := I) (p := k + 3 * i + j) HPL.out (by rw [HIK.out, HU.out]) HZ.out HOA.out); clear hown' hgrow hnil hloc hown2 hg2)
        | (refine step_append_own_at rfl (.tmp 50) (.tmp 58) 83 rfl (w.heap.size + 1) 3 i0 (.int .i64 0) 1 8 Try.underlying83 hi hz0 hz1 hz2 rfl (by decide) vb zb.length (zb.map (Value.int .i64)) ?s HOIB.out.1 ⟨wr.heap.size, 0, none⟩ 1 1 [.int .i64 (U : Int)] (by simp [Act.eval, Act.put]) rfl (cell_one_new wr _ _) (ints_oneCell .i64 [(U : Int)]) (by unfold maxLen; omega) (by omega) (by simp; omega) ?_; (case s => (simp [Act.eval, Act.put]; done)); intro v' w1 hown' hgrow hnil hloc; have HOA := Aside0.mk (HOIB.out.appended (x := (U : Int)) (w1 := w1) hown' (WalkArith.wf_i64 (by have := HU.out; omega))); obtain ⟨w2, hrun2, hown2, hg2⟩ := HBKB.out w1 v' (zb ++ [(U : Int)]) hgrow HOA.out (by simp; omega) (hloc.imp id (fun h => ⟨_, h, Nat.le_of_eq rfl⟩)); have HZ := Aside0.mk (GTo_zs (I := I) (p := k + 3 * i + j) (by have := HPL.out; omega) HOIB.out HATB.out); have HOW2 := Aside0.mk hown2; have HBB2 := Aside0.mk ((below_drew (below_alloc HB.out (.cells #[.int .i64 (U : Int)] 3))).groups HOIB.out hgrow hg2 (Nat.le_trans HB.out.size (by simp)) (Nat.le_succ _) (Nat.le_refl _)); have HSZ2 := Aside0.mk (Nat.le_trans (show wr.heap.size ≤ w1.heap.size from Nat.le_trans (by simp) hgrow.size) hg2.size); have HST := Aside0.mk (GTo_step (I := I) (p := k + 3 * i + j) HPL.out (by rw [HIK.out, HU.out]) HZ.out HOA.out); clear hown' hgrow hnil hloc hown2 hg2))
       all_goals
        go_wp2_with fail
        go_roundw
        case rel => exact ⟨j + 1, (by first | rfl | exact congrArg _ (wS (by omega))), ⟨HJ3.out⟩, ⟨by rw [show k + 3 * i + (j + 1) = k + 3 * i + j + 1 from rfl, HST.out]; exact HOW2.out⟩, HBB2, ⟨Nat.le_trans HS.out HSZ2.out⟩⟩
        case measure => have := HJ3.out; (try rw [wS (by omega)]); simp [intOf]; omega
      ·have t5 : decide ((j : Int) < (3 : Int)) = false := decide_eq_false (by omega)
       have t6 : decide (j < 3) = false := decide_eq_false hj
       have hj3 : j = 3 := by have := HJ.out; omega
       subst hj3
       clear hj
       go_wp2_with fail
       go_roundw
       case rel => exact ⟨i + 1, (by first | rfl | exact congrArg _ (wS (by omega))), ⟨HIN.out⟩, HO, HB, HS⟩
       case measure => (try rw [wS (by omega)]); simp [intOf]; omega
    ·have t3 : decide ((i : Int) < (nf : Int)) = false := decide_eq_false (by omega)
     have t4 : decide (i < nf) = false := decide_eq_false hi2
     have hi : i = nf := by have := HI.out; omega
     clear hi2
     go_wp2_with fail
     go_ret
     refine ⟨rfl, ?_, HB.out⟩
     rw [HIL.out, ← hi]
     exact HO.out
end
section
open Go.RowKit Go.Proofs.YtnlhhbnoccobmaaW.PrintWords Go.Proofs.YtnlhhbnoccobmaaW.PrintLast Go.Proofs.YtnlhhbnoccobmaaW.PrintMore
attribute [local go_sem] max2_int min2_int max_two min_two max_three min_three max_four min_four   
set_option linter.unusedVariables false
set_option linter.unusedSimpArgs false
open Go.Proofs.Ytnlhhbnoccobmaa.Mem Go.Proofs.Ytnlhhbnoccobmaa.Web Go.Maps
set_option maxHeartbeats 2000000 in
set_option maxRecDepth 100000 in
theorem nodes_walk (nl nf : Nat) (Bw : Nat) (Al : Option Addr) (cl : Nat) (Af : Option Addr) (cf : Nat) (h8 : nl + nf ≤ 4611686018427387904) (w : World) (hb : w.heap[Bw]? = some (.cells #[.slice Al nl cl, .slice Af nf cf] 28 (0, 0))) :
  Calls Try.prog 93 #[.pointer (some ⟨Bw, 0, none⟩)] w fun e w' => e = .returned (.int .i64 ((nl + nf : Nat) : Int)) ∧ ∃ nd, w' = w.drewN nd := by
 have c0 : w.cell? ⟨Bw, 0, none⟩ = some (.slice Al nl cl) := (blk_cell hb 0).trans rfl
 have c1 : w.cell? ⟨Bw, 1, none⟩ = some (.slice Af nf cf) := (blk_cell hb 1).trans rfl
 have hu : IntKind.i64.wrap ((nl : Int) + (nf : Int)) = ((nl + nf : Nat) : Int) := by rw [i64_w]; unfold wrap64; omega
 clear hb
 go_enter Try.func93, Try.ntmps93
 go_wp2
 go_quiet (fail)
 go_wp2
 go_ret
 exact ⟨by first | rfl | (rw [hu]), _, rfl⟩
def upTo (n i : Nat) : List Int := (List.range n).map fun a => if a < i then (a : Int) else 0
theorem upTo_zero (n : Nat) : upTo n 0 = List.replicate n 0 := by
 unfold upTo
 rw [List.map_congr_left (g := fun _ => (0 : Int)) (fun a _ => if_neg (Nat.not_lt_zero _)), List.map_const']; simp
theorem upTo_succ (n i : Nat) (h : i < n) : (upTo n i).set i (i : Int) = upTo n (i + 1) := by
 apply List.ext_getElem
 ·simp [upTo]
 ·intro j h1 h2
  have hj : j < n := by simpa [upTo] using h2
  simp only [upTo, List.getElem_set, List.getElem_map, List.getElem_range]
  by_cases e : i = j
  ·subst e; rw [if_pos rfl, if_pos (by omega)]
  ·rw [if_neg e]
   by_cases g : j < i
   ·rw [if_pos g, if_pos (by omega)]
   ·rw [if_neg g, if_neg (by omega)]
theorem upTo_full (n : Nat) : upTo n n = ints (List.range n) := by
 unfold upTo ints
 exact List.map_congr_left fun a ha => if_pos (List.mem_range.1 ha)
theorem upTo_len (n i : Nat) : (upTo n i).length = n := by simp [upTo]
theorem groups_own {H : Type} {P : Program} {k : TypeId} {w : World} {base : Nat} {e : TypeId} {q : IntKind} {b n : Nat} {D : DataW H} (h : w.ownsGroups P k base e q b n D) : w.ownsMap P k (rowElem w base e q) b n D := by
 obtain ⟨es, clock, hb, F, hs, hD, _⟩ := h
 exact ⟨es, clock, hb, F, hs, hD⟩
theorem own_two {w : World} {base : Nat} {e : TypeId} {v : Value} {x y : Int} (h : w.ownsInts base e .i64 v [x, y]) : ∃ g cap, v = .slice (some ⟨g, 0, none⟩) 2 cap ∧ base ≤ g ∧ g < w.heap.size ∧ w.cell? ⟨g, 0, none⟩ = some (.int .i64 x) ∧ w.cell? ⟨g, 1, none⟩ = some (.int .i64 y) := by
 have hR : Kd.R (Kd.int .i64) e w base (fun k => base ≤ k) v [x, y] := R_of_own h.1
 obtain ⟨A, c, rfl, hc, hC⟩ := Kd.R_reads hR
 obtain ⟨ad, rfl, h0⟩ := cell_of_C hC 0 (by show 0 < 2; omega)
 obtain ⟨ad', he, h1⟩ := cell_of_C hC 1 (by show 1 < 2; omega)
 obtain rfl := Option.some.inj he
 obtain ⟨g, rfl⟩ := Kd.R_head hR
 rw [add_plain] at h0 h1
 exact ⟨g, c, rfl, Kd.R_base hR g (by simp [Value.ownBlock]), Kd.R_lt hR g (by simp [Value.ownBlock]), h0, h1⟩
theorem inv_key {key : Value} {kl : Lit} (h : keyOf Try.prog 2 key = some kl) : ∃ x, key = Value.int .i64 x := by
 obtain ⟨x, hx, _⟩ := keyOf_int_inv Try.underlying2 h
 exact ⟨x, hx⟩
theorem come_of {w1 : World} {base : Nat} {I : List (Int × Nat)} {x : Int} {c : Value} {kl : Lit} {y : DataW Unit × List MemPlace} (hkey : keyOf Try.prog 2 (.int .i64 x) = some kl) (hR : rowElem w1 base 3 .i64 c = some y) (hat : ∀ zd, (GTo I I.length).atKey kl zd = y.1) :
  kl = keyL x ∧ w1.ownsInts base 3 .i64 c (ints (ends I x)) ∧ ends I x ≠ [] := by
 obtain ⟨x', hx, rfl, _⟩ := keyOf_int_inv Try.underlying2 hkey
 injection hx with _ hx
 subst hx
 obtain ⟨zs, ho, rfl⟩ := rowElem_inv hR
 have hz := GTo_zs (I := I) (p := I.length) (e := x) (Nat.le_refl _) ho (hat .nil)
 rw [List.take_length] at hz
 refine ⟨rfl, by rw [← hz]; exact ho, fun h0 => ?_⟩
 have h1 := hat .nil
 have h2 := hat (.lit (.bool true))
 have g1 := GTo_at I x .nil I.length (Nat.le_refl _)
 have g2 := GTo_at I x (.lit (.bool true)) I.length (Nat.le_refl _)
 rw [List.take_length, if_pos h0] at g1 g2
 have : (DataW.nil : DataW Unit) = .lit (.bool true) := g1.symm.trans (h1.trans (h2.symm.trans g2))
 cases this
theorem same_keyL (e x : Int) : (keyL e).sameKey (keyL x) = (e == x) := by
 unfold keyL Lit.sameKey
 rw [Bool.eq_iff_iff]; simp
theorem ints_put (l : List Nat) (i x : Nat) : (ints l).set i (x : Int) = ints (l.set i x) := by unfold ints; rw [List.map_set]
theorem left_step (p : Bool) (L : List Int) (e x : Int) : (((!p) && !L.contains e) && !(e == x)) = ((!p) && !(L ++ [x]).contains e) := by
 have h : (L ++ [x]).contains e = (L.contains e || e == x) := by
  rw [Bool.eq_iff_iff, List.contains_iff_mem, Bool.or_eq_true, List.contains_iff_mem, List.mem_append, List.mem_singleton, beq_iff_eq]
 rw [h]
 cases p <;> cases L.contains e <;> cases (e == x) <;> rfl
set_option maxHeartbeats 4000000 in
set_option maxRecDepth 100000 in
theorem partsOf_walk (legs : List Int) (forks : List (List Int)) (n Bw : Nat) (Al : Option Addr) (cl : Nat) (Af : Option Addr) (cf : Nat) (hn : n = legs.length + forks.length) (h8 : n ≤ 8) (h3 : ∀ f ∈ forks, f.length = 3) (hwf : ∀ p ∈ inc legs forks, (Lit.int .i64 p.1).wf = true) (h2 : Two (inc legs forks) n) (w : World)
  (hb : w.heap[Bw]? = some (.cells #[.slice Al legs.length cl, .slice Af forks.length cf] 28 (0, 0))) (hl : Kd.C (Kd.int .i64) w Al legs.length legs) (hf : Kd.C (Kd.slice 2 (Kd.int .i64)) w Af forks.length forks) :
  Calls Try.prog 99 #[.pointer (some ⟨Bw, 0, none⟩)] w fun e w' => ∃ v0_ : Value, e = .returned v0_ ∧ Kd.R (Kd.int .i64) 3 w' w.heap.size (fun _ => True) v0_ (ints ((List.range n).map (lbl (inc legs forks)))) ∧ Below w.heap.size w w' := by
 have hmk := make_ints (P := Try.prog) Try.underlying83 info_webint (n : Int) n rfl (by omega)
 have HN := Aside0.mk hn
 have H8 := Aside0.mk h8
 have H3 := Aside0.mk h3
 have HWF := Aside0.mk hwf
 have H2 := Aside0.mk h2
 have HBK := Aside0.mk hb
 have HL := Aside0.mk hl
 have HF := Aside0.mk hf
 obtain ⟨Bo, hBo⟩ : ∃ Bo, Bo = w.heap.size := ⟨_, rfl⟩
 have HBO := Aside0.mk hBo
 clear hn h3 hwf h2 hb hl hf
 go_enter Try.func99, Try.ntmps99
 go_wp2_with (first
  | (go_at_call 93; refine (nodes_walk legs.length forks.length Bw Al cl Af cf (by have := HN.out; have := H8.out; omega) _ HBK.out).mono ?_; rintro e w1 ⟨rfl, ⟨nd, rfl⟩⟩; rw [← HN.out]))
 rw [← hBo]
 have HH0 : Aside0 (((w.drewN nd).alloc (.cells (nums .i64 (List.replicate n 0)).toArray 3)).heap[Bo]? = some (.cells (nums .i64 (upTo n 0)).toArray 3 (0, 0))) := ⟨by rw [upTo_zero]; exact new_at hBo⟩
 have HB0 : Aside0 (Below w.heap.size w ((w.drewN nd).alloc (.cells (nums .i64 (List.replicate n 0)).toArray 3))) := ⟨below_alloc (pw_below_drewN (Below.refl _ _) _) _⟩
 clear hBo hmk
 go_loopw [13] (fun s13 wr => ∃ i : Nat, s13 = .int .i64 (i : Int) ∧ Aside0 (i ≤ n) ∧ Aside0 (wr.heap[Bo]? = some (.cells (nums .i64 (upTo n i)).toArray 3 (0, 0))) ∧ Aside0 (Below w.heap.size w wr))
  (fun s13 _ => n - (intOf s13).toNat)
 case atStart => exact ⟨0, rfl, ⟨Nat.zero_le _⟩, HH0, HB0⟩
 case round =>
  clear HH0 HB0
  obtain ⟨i, rfl, HI, HH, HB⟩ := hrel
  by_cases hi : i < n
  ·have t1 : decide ((i : Int) < (n : Int)) = true := decide_eq_true (by omega)
   have t2 : decide (i < n) = true := decide_eq_true hi
   have hx := (blk_cell HH.out i).trans (nums_get _ i (by rw [upTo_len]; exact hi))
   have hfz := blk_frozen HH.out i
   go_wp2_with fail
   go_roundw
   case rel => exact ⟨i + 1, (by first | rfl | exact congrArg _ (wS (by omega))), ⟨by omega⟩, ⟨by rw [← upTo_succ n i hi, ← nums_set]; exact blk_set HH.out _ _⟩, ⟨below_grown HB.out (grown_set (grown_refl _ _) i _) (by have := HBO.out; omega)⟩⟩
   case measure => (try rw [wS (by omega)]); simp [intOf]; omega
  ·have t1 : decide ((i : Int) < (n : Int)) = false := decide_eq_false (by omega)
   have t2 : decide (i < n) = false := decide_eq_false hi
   have hin : i = n := by have := HI.out; omega
   subst hin
   clear hi
   have HH1 : Aside0 (wr.heap[Bo]? = some (.cells (nums .i64 (ints (List.range i))).toArray 3 (0, 0))) := ⟨by rw [← upTo_full]; exact HH.out⟩
   go_wp2_with fail
   clear HH
   go_loopw [23] (fun s23 wr => ∃ (t : Nat) (out : List Nat), s23 = .int .i64 (t : Int) ∧ Aside0 (t ≤ i) ∧ Aside0 (Rounds (inc legs forks) i t out) ∧ Aside0 (wr.heap[Bo]? = some (.cells (nums .i64 (ints out)).toArray 3 (0, 0))) ∧ Aside0 (Below w.heap.size w wr))
    (fun s23 _ => i - (intOf s23).toNat)
   case atStart => exact ⟨0, _, rfl, ⟨Nat.zero_le _⟩, ⟨.zero⟩, HH1, HB⟩
   case round =>
    clear HH1 HB
    obtain ⟨t, out, rfl, HT, HRO, HH, HB⟩ := hrel
    by_cases ht : t < i
    ·have t3 : decide ((t : Int) < (i : Int)) = true := decide_eq_true (by omega)
     have t4 : decide (t < i) = true := decide_eq_true ht
     have HTI := Aside0.mk ht
     obtain ⟨wo, hwo⟩ : ∃ wo, wo = wr := ⟨wr, rfl⟩
     subst hwo
     go_wp2_with (first
      | (go_at_call 96; refine (stands_walk legs forks Bw Al cl Af cf (by have := HN.out; have := H8.out; omega) H3.out HWF.out wo (blk_below HBK.out HB.out) (Kd.C_below HL.out HB.out) (Kd.C_below HF.out HB.out)).mono ?_; rintro e w1 ⟨rfl, hgr1, hb1⟩; have HGR := Aside0.mk hgr1; have HB1 := Aside0.mk hb1; clear hgr1 hb1)
      | (at_range; refine wpList_range_own _ rfl _ 81 rfl 2 83 webKey Try.underlying81 _ wo.heap.size (inc legs forks).length _ rfl (groups_own HGR.out) ?_; intro w2 hrg2 hg2 hs2)
      | go_in)
     go_frame
     obtain ⟨I, hI⟩ : ∃ I, I = inc legs forks := ⟨_, rfl⟩
     rw [← hI] at hrg2
     have HII := Aside0.mk hI
     have HH2 : Aside0 (w2.heap[Bo]? = some (.cells (nums .i64 (ints (([] : List Int).foldl (relax I) out))).toArray 3 (0, 0))) := ⟨blk_grown (blk_below HH.out HB1.out) hg2 (by simp)⟩
     have HRG2 := Aside0.mk hrg2
     have HL2 : Aside0 (∀ e, Maps.has (GTo I I.length) (keyL e) = ((!(ends I e).isEmpty) && !([] : List Int).contains e)) := ⟨fun e => by
      have h := GTo_has I e I.length (Nat.le_refl _)
      rw [List.take_length] at h
      rw [h]; simp⟩
     have HG2 := Aside0.mk (grown_of_none hg2 (some Bo))
     have HBW := Aside0.mk (blk_lt HH.out)
     clear hI hrg2 hg2 hs2
     go_loopw [6] (fun _ wr => ∃ (left : Lit → Bool) (cnt : Nat) (L : List Int), Aside0 (wr.ranges Try.prog 2 (rowElem (H := Unit) w1 (wo.heap.size + 1) 3 .i64) wo.heap.size w1.heap.size I.length (GTo I I.length) left cnt) ∧ Aside0 (∀ e, left (keyL e) = ((!(ends I e).isEmpty) && !L.contains e)) ∧ Aside0 (∀ e ∈ L, ∃ u, (e, u) ∈ I) ∧ Aside0 (wr.heap[Bo]? = some (.cells (nums .i64 (ints (L.foldl (relax I) out))).toArray 3 (0, 0))) ∧ Aside0 (w1.grownBy wr (some Bo)))
      (fun _ wr => wr.rangeLeft wo.heap.size w1.heap.size)
     case atStart => exact ⟨_, _, [], by rw [HII.out]; rw [HII.out] at HRG2; exact HRG2, HL2, ⟨by simp⟩, HH2, HG2⟩
     case round =>
      clear HH2 HRG2 HL2 HG2
      obtain ⟨left, cnt, L, HRG, HLE, HLI, HHO, HG⟩ := hrel
      have h2 := H2.out
      rw [← HII.out] at h2
      have hro := HRO.out
      rw [← HII.out] at hro
      have hfit := (fold_keep h2 L out HLI.out (rounds_fits h2 hro)).1
      have HFIT := Aside0.mk hfit
      clear hro
      go_wp2_with (first
       | (at_next; refine wpList_next_ranges (α := Int) (β := Value) _ rfl _ rfl 2 webKey (rowElem (H := Unit) w1 (wo.heap.size + 1) 3 .i64) (Value.int .i64) id (fun key kl h => inv_key h) (fun v y _ => ⟨v, rfl⟩) wo.heap.size w1.heap.size I.length (GTo I I.length) left cnt rfl HRG.out ?_ ?_)
       | go_in)
      ·intro hc0 hl0
       have hround : Round I out (L.foldl (relax I) out) := by
        refine ⟨L, fun e => ⟨HLI.out e, fun ⟨u, hu⟩ => ?_⟩, rfl⟩
        have h := HLE.out e
        rw [hl0] at h
        have hne : ends I e ≠ [] := fun h0 => by have := mem_ends.2 hu; rw [h0] at this; exact absurd this (by simp)
        cases hc : L.contains e with
        | true => exact List.contains_iff_mem.1 hc
        | false =>
         rw [hc] at h
         cases hh : ends I e with
         | nil => exact absurd hh hne
         | cons _ _ => rw [hh] at h; simp at h
       have HROU := Aside0.mk hround
       clear hround
       go_wp2
       go_roundw
       case rel => exact ⟨t + 1, L.foldl (relax I) out, (by first | rfl | exact congrArg _ (wS (by omega))), ⟨HTI.out⟩, ⟨.succ HRO.out (by rw [← HII.out]; exact HROU.out)⟩, HHO, ⟨below_grown (below_step HB.out HB1.out) HG.out (by have := HBO.out; omega)⟩⟩
       case measure => (try rw [wS (by omega)]); simp [intOf]; omega
      ·intro x c kl d ps w3 cnt3 hkey hlk hR hat hrg3 hlt3 hg3 hs3 hen
       obtain ⟨rfl, hown, hne⟩ := come_of hkey hR hat
       have hlx := HLE.out x
       rw [hlk] at hlx
       obtain ⟨u, hu⟩ := List.exists_mem_of_ne_nil _ hne
       obtain ⟨a, b, hab, ha, hb, hj, _⟩ := h2.at_ (mem_ends.1 hu)
       rw [hab] at hown
       obtain ⟨g, cap, rfl, hg1, hg2, hc0, hc1⟩ := own_two hown
       obtain ⟨O, hO⟩ : ∃ O, O = L.foldl (relax I) out := ⟨_, rfl⟩
       have hho := HHO.out
       have hf := HFIT.out
       rw [← hO] at hho hf
       have hol := hf.len
       have hoi : (ints O).length = O.length := ints_len O
       have HOE := Aside0.mk hO
       have hBog : Bo ≠ g := by have := HBW.out; omega
       have hgr : g ≠ w1.heap.size := by omega
       have hBor : Bo ≠ w1.heap.size := by have := HBW.out; have := HB1.out.size; omega
       have hBom : Bo ≠ wo.heap.size := by have := HBW.out; omega
       have hk0 := hg3.cell (HG.out.cell hc0 (by simp; exact Ne.symm hBog)) (by simp; exact hgr)
       have hk1 := hg3.cell (HG.out.cell hc1 (by simp; exact Ne.symm hBog)) (by simp; exact hgr)
       have hh3 := blk_grown hho hg3 (by simp; exact hBor)
       have hxa := (blk_cell hh3 a).trans (nums_get _ a (by omega))
       have hxb := (blk_cell hh3 b).trans (nums_get _ b (by omega))
       rw [ints_getD O a (by omega)] at hxa
       rw [ints_getD O b (by omega)] at hxb
       obtain ⟨lo, hlo⟩ : ∃ lo, lo = low2 O a b := ⟨_, rfl⟩
       obtain ⟨va, hva⟩ : ∃ va, va = O.getD a 0 := ⟨_, rfl⟩
       obtain ⟨vb, hvb⟩ : ∃ vb, vb = O.getD b 0 := ⟨_, rfl⟩
       rw [← hva] at hxa
       rw [← hvb] at hxb
       have hmn : (if vb < va then (vb : Int) else (va : Int)) = (lo : Int) := by
        rw [hlo, low2]
        show _ = ((min (O.getD a 0) (O.getD b 0) : Nat) : Int)
        rw [← hva, ← hvb]
        split <;> omega
       have HLO := Aside0.mk hlo
       have HH3 := Aside0.mk hh3
       have HFO := Aside0.mk hf
       have HOI := Aside0.mk hoi
       have HRG3 := Aside0.mk hrg3
       have HG3 := Aside0.mk (HG.out.andThen hg3 (fun j hj => by cases hj; exact Or.inl (Nat.le_refl _)))
       have HAB := Aside0.mk hab
       have HJ := Aside0.mk hj
       have HLK := Aside0.mk hlk
       have HLT3 := Aside0.mk hlt3
       have HBOM := Aside0.mk hBom
       have HBOR := Aside0.mk hBor
       have HBOG := Aside0.mk hBog
       have HU := Aside0.mk (mem_ends.1 hu)
       clear hva hvb hO hlo hlx hlk hkey hR hat hne hu hown hg3 hs3 hf hol hoi hho hh3 hrg3 hlt3 hfit h2 hc0 hc1 hBog hgr hBor hBom hab hj hg1 hg2
       go_wp2_with fail
       go_quiet (fail)
       (try simp only [hmn])
       clear hmn
       obtain ⟨w4, hw4⟩ : ∃ w4, w4 = w3.drewN nq := ⟨_, rfl⟩
       rw [← hw4]
       have HH4 : Aside0 (w4.heap[Bo]? = some (.cells (nums .i64 (ints O)).toArray 3 (0, 0))) := ⟨by rw [hw4]; exact HH3.out⟩
       have HW4 := Aside0.mk hw4
       have hk0 : w4.cell? ⟨g, 0, none⟩ = some (.int .i64 (a : Int)) := by rw [hw4]; exact hk0
       have hk1 : w4.cell? ⟨g, 1, none⟩ = some (.int .i64 (b : Int)) := by rw [hw4]; exact hk1
       have hxa : w4.cell? ⟨Bo, a, none⟩ = some (.int .i64 (va : Int)) := by rw [hw4]; exact hxa
       have hfa := blk_frozen HH4.out a
       have hb4 := blk_set HH4.out a (.int .i64 (lo : Int))
       rw [nums_set] at hb4
       have hxb4 := (blk_cell hb4 b).trans (nums_get _ b (by rw [List.length_set, HOI.out, HFO.out.len]; exact hb))
       have hfb := blk_frozen hb4 b
       have HB4 := Aside0.mk hb4
       clear hw4 hb4
       go_wp2_with fail
       go_region
       all_goals
        have HG5 : Aside0 (w3.grownBy ((w4.setCell ⟨Bo, a, none⟩ (.int .i64 (lo : Int))).setCell ⟨Bo, b, none⟩ (.int .i64 (lo : Int))).drew (some Bo)) := ⟨grown_drew (grown_set (grown_set (by rw [HW4.out]; exact grown_drewN (grown_refl _ _) _) _ _) _ _)⟩
        have HR5 := Aside0.mk (HRG3.out.kept HG5.out (by simp; exact Ne.symm HBOM.out) (by simp; exact Ne.symm HBOR.out))
        have HH5 : Aside0 (((w4.setCell ⟨Bo, a, none⟩ (.int .i64 (lo : Int))).setCell ⟨Bo, b, none⟩ (.int .i64 (lo : Int))).drew.heap[Bo]? = some (.cells (nums .i64 (ints ((L ++ [x]).foldl (relax I) out))).toArray 3 (0, 0))) := ⟨by
         have e : (L ++ [x]).foldl (relax I) out = relax2 O a b := by
          rw [List.foldl_append, ← HOE.out]
          show relax I O x = _
          unfold relax; rw [HAB.out]; rfl
         have h := blk_drew (blk_set HB4.out b (.int .i64 (lo : Int)))
         rw [nums_set, ints_put, ints_put, HLO.out] at h
         rw [e, HLO.out]
         exact h⟩
        go_wp2_with fail
        go_roundw
        case rel =>
         refine ⟨_, cnt3, L ++ [x], HR5, ⟨fun e => ?_⟩, ⟨fun e he => ?_⟩, HH5, ⟨grown_trans HG3.out HG5.out⟩⟩
         ·show (left (keyL e) && !(keyL e).sameKey (keyL x)) = _
          rw [HLE.out e, same_keyL]
          exact left_step _ _ _ _
         ·rcases List.mem_append.1 he with q | q
          ·exact HLI.out e q
          ·rw [List.mem_singleton] at q; rw [q]; exact ⟨_, HU.out⟩
        case measure => rw [HR5.out.left_eq, HRG.out.left_eq]; exact HLT3.out
    ·have t3 : decide ((t : Int) < (i : Int)) = false := decide_eq_false (by omega)
     have t4 : decide (t < i) = false := decide_eq_false ht
     have hti : t = i := by have := HT.out; omega
     subst hti
     clear ht
     go_wp2_with fail
     go_ret
     refine ⟨_, rfl, ?_, HB.out⟩
     have e := rounds_lbl H2.out HRO.out
     have hl : (ints out).length = t := by rw [e, ints_len]; simp
     rw [← e]
     exact R_of_block HH.out hl (by have := H8.out; unfold maxLen; omega) (by have := HBO.out; omega)
end
section
open Go.RowKit Go.Proofs.YtnlhhbnoccobmaaW.PrintWords Go.Proofs.YtnlhhbnoccobmaaW.PrintLast Go.Proofs.YtnlhhbnoccobmaaW.PrintMore
attribute [local go_sem] max2_int min2_int max_two min_two max_three min_three max_four min_four   
set_option linter.unusedVariables false
set_option linter.unusedSimpArgs false
open Go.Proofs.Ytnlhhbnoccobmaa.Mem Go.Proofs.Ytnlhhbnoccobmaa.Web Go.Proofs.Ytnlhhbnoccobmaa.Pure Go.Maps
def firstT : List Bool → Nat → Int
 | [], _ => -1
 | b :: l, i => if b = true then (i : Int) else firstT l (i + 1)
theorem firstT_ge : ∀ (l : List Bool) (i : Nat), decide (0 ≤ firstT l i) = l.any id
 | [], _ => rfl
 | b :: l, i => by
  rw [firstT, List.any_cons]
  cases b with
  | true => rw [if_pos rfl]; simp
  | false => rw [if_neg (by simp)]; simpa using firstT_ge l (i + 1)
theorem firstT_skip {l : List Bool} : ∀ x, x ≤ l.length → (l.take x).any id = false → firstT l 0 = firstT (l.drop x) x
 | 0, _, _ => rfl
 | x + 1, hx, h => by
  rw [List.take_succ_eq_append_getElem (by omega), List.any_append] at h
  simp only [Bool.or_eq_false_iff] at h
  rw [firstT_skip x (by omega) h.1, List.drop_eq_getElem_cons (by omega), firstT]
  have h2 := h.2
  simp only [List.any_cons, List.any_nil, Bool.or_false, id] at h2
  rw [if_neg (by rw [h2]; simp)]
set_option maxHeartbeats 2000000 in
set_option maxRecDepth 100000 in
theorem web_1 (A : Option Addr) (n c : Nat) (w : World) : Calls Try.prog 95 #[.slice A n c] w fun e w' => e = .returned (.bool (n != 3)) ∧ w' = w := by
 cases h : (n != 3) with
 | true =>
  have h3 : n ≠ 3 := by simpa using h
  have t1 : ((n : Int) == 3) = false := by simp; omega
  go_enter Try.func95, Try.ntmps95
  go_wp2
  go_ret
  exact ⟨by first | rfl | (simp; omega), rfl⟩
 | false =>
  have t1 : n = 3 := by simpa using h
  subst t1
  go_enter Try.func95, Try.ntmps95
  go_wp2
  go_ret
  exact ⟨by first | rfl | simp, rfl⟩
set_option maxHeartbeats 2000000 in
set_option maxRecDepth 100000 in
theorem web_IndexFunc (forks : List (List Int)) (hl : forks.length ≤ 1000) (A : Option Addr) (c : Nat) (w : World) (hr : Kd.C (Kd.slice 2 (Kd.int .i64)) w A forks.length forks) :
  Calls Try.prog 164 #[.slice A forks.length c, .func (.func 95) #[] #[]] w fun e w' => e = .returned (.int .i64 (firstT (forks.map fun f => f.length != 3) 0)) ∧ ∃ nd, w' = w.drewN nd := by
 have HR := Aside0.mk hr
 obtain ⟨n, hn⟩ : ∃ n, n = forks.length := ⟨_, rfl⟩
 rw [← hn]
 have HN := Aside0.mk hn
 have hr : Kd.C (Kd.slice 2 (Kd.int .i64)) w A n forks := by rw [hn]; exact hr
 have HRN := Aside0.mk hr
 obtain ⟨bs, hbs⟩ : ∃ bs, bs = forks.map fun f => f.length != 3 := ⟨_, rfl⟩
 have HBS := Aside0.mk hbs
 have hbl : bs.length = n := by rw [hbs, hn]; simp
 have HBL := Aside0.mk hbl
 rw [← hbs]
 have hn1 : n ≤ 1000 := by omega
 clear hr hbs hbl hn
 go_enter Try.func164, Try.ntmps164
 go_wp2
 go_loopw [8] (fun i wr => ∃ x : Nat, i = .int .i64 (x : Int) ∧ Aside0 (x ≤ n) ∧ Aside0 ((bs.take x).any id = false) ∧ ∃ nd, wr = w.drewN nd)
  (fun i _ => n - (intOf i).toNat)
 case atStart => exact ⟨0, rfl, ⟨Nat.zero_le _⟩, ⟨rfl⟩, 0, rfl⟩
 case round =>
  obtain ⟨x, rfl, HX, HA, nd, rfl⟩ := hrel
  by_cases hlt : x < n
  ·have t1 : decide ((x : Int) < (n : Int)) = true := decide_eq_true (by omega)
   have t2 : decide (x < n) = true := decide_eq_true hlt
   obtain ⟨ad, Aa, ca, ead, hrow, hca, _⟩ := row_of_C HRN.out x hlt
   subst ead
   obtain ⟨ln, hln⟩ : ∃ ln, ln = (forks.getD x []).length := ⟨_, rfl⟩
   rw [← hln] at hrow
   have hb : bs.getD x false = (ln != 3) := by
    rw [HBS.out, List.getD_eq_getElem?_getD, List.getElem?_map, List.getElem?_eq_getElem (by rw [← HN.out]; exact hlt), hln, List.getD_eq_getElem?_getD, List.getElem?_eq_getElem (by rw [← HN.out]; exact hlt)]; rfl
   have HD := Aside0.mk (show bs.drop x = (ln != 3) :: bs.drop (x + 1) from by
    rw [List.drop_eq_getElem_cons (by rw [HBL.out]; exact hlt), ← hb, List.getD_eq_getElem?_getD, List.getElem?_eq_getElem (by rw [HBL.out]; exact hlt)]; rfl)
   have HT := Aside0.mk (show bs.take (x + 1) = bs.take x ++ [ln != 3] from by
    rw [List.take_succ_eq_append_getElem (by rw [HBL.out]; exact hlt), ← hb, List.getD_eq_getElem?_getD, List.getElem?_eq_getElem (by rw [HBL.out]; exact hlt)]; rfl)
   have HLT := Aside0.mk hlt
   clear hln hb
   have hc := fun W => web_1 Aa ln ca W
   cases hv : (ln != 3) with
   | true =>
    have HV := Aside0.mk hv
    rw [hv] at hc
    have HCC := Aside0.mk hc
    clear hv hc
    go_wp2_with (first | (go_at_call 95; refine (HCC.out _).mono ?_; rintro e w2 ⟨rfl, rfl⟩))
    go_ret
    refine ⟨?_, _, rfl⟩
    rw [firstT_skip x (by rw [HBL.out]; exact HX.out) HA.out, HD.out, firstT, HV.out, if_pos rfl]
    rfl
   | false =>
    have HV := Aside0.mk hv
    rw [hv] at hc
    have HCC := Aside0.mk hc
    clear hv hc
    go_wp2_with (first | (go_at_call 95; refine (HCC.out _).mono ?_; rintro e w2 ⟨rfl, rfl⟩))
    go_roundw
    case rel => exact ⟨x + 1, (by first | rfl | exact congrArg _ (wS (by omega))), ⟨HLT.out⟩, ⟨by rw [HT.out, List.any_append, HA.out, HV.out]; rfl⟩, _, rfl⟩
    case measure => (try rw [wS (by omega)]); simp [intOf]; omega
  ·have t1 : decide ((x : Int) < (n : Int)) = false := decide_eq_false (by omega)
   have t2 : decide (x < n) = false := decide_eq_false hlt
   have HXE := Aside0.mk (show x = n from by have := HX.out; omega)
   clear hlt
   go_wp2
   go_ret
   refine ⟨?_, _, rfl⟩
   rw [firstT_skip x (by rw [HBL.out]; exact HX.out) HA.out, List.drop_of_length_le (by rw [HBL.out, HXE.out]; exact Nat.le_refl _)]
   rfl
set_option maxHeartbeats 2000000 in
set_option maxRecDepth 100000 in
theorem web_ContainsFunc (forks : List (List Int)) (hl : forks.length ≤ 1000) (A : Option Addr) (c : Nat) (w : World) (hr : Kd.C (Kd.slice 2 (Kd.int .i64)) w A forks.length forks) :
  Calls Try.prog 94 #[.slice A forks.length c, .func (.func 95) #[] #[]] w fun e w' => e = .returned (.bool ((forks.map fun f => f.length != 3).any id)) ∧ ∃ nd, w' = w.drewN nd := by
 have HI := Aside0.mk (firstT_ge (forks.map fun f => f.length != 3) 0)
 have HR := Aside0.mk hr
 have HL := Aside0.mk hl
 clear hr hl
 go_enter Try.func94, Try.ntmps94
 go_wp2_with (first | (go_at_call 164; refine (web_IndexFunc forks HL.out A c _ HR.out).mono ?_; rintro e w1 ⟨rfl, ⟨nd, rfl⟩⟩))
 go_ret
 exact ⟨by rw [← HI.out]; rfl, _, rfl⟩
set_option maxHeartbeats 2000000 in
set_option maxRecDepth 100000 in
theorem web_2 (x nl : Nat) (Bw : Nat) (v : Value) (Al : Option Addr) (cl : Nat) (w : World) (h : w.cell? ⟨Bw, 0, none⟩ = some (.slice Al nl cl)) : Calls Try.prog 100 #[.int .i64 (x : Int), .pointer (some ⟨Bw, 0, none⟩)] w fun e w' => e = .returned (.bool (decide (nl ≤ x))) ∧ w' = w := by
 have t1 : decide ((nl : Int) ≤ (x : Int)) = decide (nl ≤ x) := by rw [decide_eq_decide]; omega
 go_enter Try.func100, Try.ntmps100
 go_wp2
 go_ret
 exact ⟨by first | rfl | simp [t1], rfl⟩
set_option maxHeartbeats 2000000 in
set_option maxRecDepth 100000 in
theorem web_IndexFunc2 (l : List Nat) (hl : l.length ≤ 1000) (A : Option Addr) (c nl Bw : Nat) (Al : Option Addr) (cl : Nat) (w : World) (hr : Kd.C (Kd.int .i64) w A (ints l).length (ints l)) (h1 : w.cell? ⟨Bw, 0, none⟩ = some (.slice Al nl cl)) :
  Calls Try.prog 165 #[.slice A (ints l).length c, .func (.func 100) #[] #[.pointer (some ⟨Bw, 0, none⟩)]] w fun e w' => e = .returned (.int .i64 (firstT (l.map fun x => decide (nl ≤ x)) 0)) ∧ ∃ nd, w' = w.drewN nd := by
 obtain ⟨n, hn⟩ : ∃ n, n = l.length := ⟨_, rfl⟩
 rw [ints_len, ← hn] at hr
 rw [ints_len, ← hn]
 have HRN := Aside0.mk hr
 have HN := Aside0.mk hn
 have H1 := Aside0.mk h1
 obtain ⟨bs, hbs⟩ : ∃ bs, bs = l.map fun x => decide (nl ≤ x) := ⟨_, rfl⟩
 have HBS := Aside0.mk hbs
 have hbl : bs.length = n := by rw [hbs, hn]; simp
 have HBL := Aside0.mk hbl
 rw [← hbs]
 have hn1 : n ≤ 1000 := by omega
 clear hr hbs hbl hn h1
 go_enter Try.func165, Try.ntmps165
 go_wp2
 go_loopw [8] (fun i wr => ∃ x : Nat, i = .int .i64 (x : Int) ∧ Aside0 (x ≤ n) ∧ Aside0 ((bs.take x).any id = false) ∧ ∃ nd, wr = w.drewN nd)
  (fun i _ => n - (intOf i).toNat)
 case atStart => exact ⟨0, rfl, ⟨Nat.zero_le _⟩, ⟨rfl⟩, 0, rfl⟩
 case round =>
  obtain ⟨x, rfl, HX, HA, nd, rfl⟩ := hrel
  by_cases hlt : x < n
  ·have t1 : decide ((x : Int) < (n : Int)) = true := decide_eq_true (by omega)
   have t2 : decide (x < n) = true := decide_eq_true hlt
   obtain ⟨ad, ead, hcell⟩ := cell_of_C HRN.out x hlt
   subst ead
   rw [ints_getD l x (by rw [← HN.out]; exact hlt)] at hcell
   obtain ⟨y, hy⟩ : ∃ y, y = l.getD x 0 := ⟨_, rfl⟩
   rw [← hy] at hcell
   have hb : bs.getD x false = decide (nl ≤ y) := by
    rw [HBS.out, List.getD_eq_getElem?_getD, List.getElem?_map, List.getElem?_eq_getElem (by rw [← HN.out]; exact hlt), hy, List.getD_eq_getElem?_getD, List.getElem?_eq_getElem (by rw [← HN.out]; exact hlt)]; rfl
   have HD := Aside0.mk (show bs.drop x = decide (nl ≤ y) :: bs.drop (x + 1) from by
    rw [List.drop_eq_getElem_cons (by rw [HBL.out]; exact hlt), ← hb, List.getD_eq_getElem?_getD, List.getElem?_eq_getElem (by rw [HBL.out]; exact hlt)]; rfl)
   have HT := Aside0.mk (show bs.take (x + 1) = bs.take x ++ [decide (nl ≤ y)] from by
    rw [List.take_succ_eq_append_getElem (by rw [HBL.out]; exact hlt), ← hb, List.getD_eq_getElem?_getD, List.getElem?_eq_getElem (by rw [HBL.out]; exact hlt)]; rfl)
   have HLT := Aside0.mk hlt
   clear hy hb
   have hc := fun nd => web_2 y nl Bw undef Al cl (w.drewN nd) H1.out
   cases hv : decide (nl ≤ y) with
   | true =>
    have HV := Aside0.mk hv
    rw [hv] at hc
    have HCC := Aside0.mk hc
    clear hv hc
    go_wp2_with (first | (go_at_call 100; refine (HCC.out _).mono ?_; rintro e w2 ⟨rfl, rfl⟩))
    go_ret
    refine ⟨?_, _, rfl⟩
    rw [firstT_skip x (by rw [HBL.out]; exact HX.out) HA.out, HD.out, firstT, HV.out, if_pos rfl]
    rfl
   | false =>
    have HV := Aside0.mk hv
    rw [hv] at hc
    have HCC := Aside0.mk hc
    clear hv hc
    go_wp2_with (first | (go_at_call 100; refine (HCC.out _).mono ?_; rintro e w2 ⟨rfl, rfl⟩))
    go_roundw
    case rel => exact ⟨x + 1, (by first | rfl | exact congrArg _ (wS (by omega))), ⟨HLT.out⟩, ⟨by rw [HT.out, List.any_append, HA.out, HV.out]; rfl⟩, _, rfl⟩
    case measure => (try rw [wS (by omega)]); simp [intOf]; omega
  ·have t1 : decide ((x : Int) < (n : Int)) = false := decide_eq_false (by omega)
   have t2 : decide (x < n) = false := decide_eq_false hlt
   have HXE := Aside0.mk (show x = n from by have := HX.out; omega)
   clear hlt
   go_wp2
   go_ret
   refine ⟨?_, _, rfl⟩
   rw [firstT_skip x (by rw [HBL.out]; exact HX.out) HA.out, List.drop_of_length_le (by rw [HBL.out, HXE.out]; exact Nat.le_refl _)]
   rfl
set_option maxHeartbeats 2000000 in
set_option maxRecDepth 100000 in
theorem web_ContainsFunc2 (l : List Nat) (hl : l.length ≤ 1000) (A : Option Addr) (c nl Bw : Nat) (Al : Option Addr) (cl : Nat) (w : World) (hr : Kd.C (Kd.int .i64) w A (ints l).length (ints l)) (h1 : w.cell? ⟨Bw, 0, none⟩ = some (.slice Al nl cl)) :
  Calls Try.prog 98 #[.slice A (ints l).length c, .func (.func 100) #[] #[.pointer (some ⟨Bw, 0, none⟩)]] w fun e w' => e = .returned (.bool ((l.map fun x => decide (nl ≤ x)).any id)) ∧ ∃ nd, w' = w.drewN nd := by
 have HI := Aside0.mk (firstT_ge (l.map fun x => decide (nl ≤ x)) 0)
 have HR := Aside0.mk hr
 have HL := Aside0.mk hl
 have H1 := Aside0.mk h1
 clear hr hl h1
 go_enter Try.func98, Try.ntmps98
 go_wp2_with (first | (go_at_call 165; refine (web_IndexFunc2 l HL.out A c nl Bw Al cl _ HR.out H1.out).mono ?_; rintro e w1 ⟨rfl, ⟨nd, rfl⟩⟩))
 go_ret
 exact ⟨by rw [← HI.out]; rfl, _, rfl⟩
def wfW (legs : List Int) (forks : List (List Int)) : Bool := (inc legs forks).all fun p => (Lit.int .i64 p.1).wf
def impl_IsWeb.f (l0_0 : List Int) (l0_1 : List (List Int)) : Option Bool := if l0_0.length ≤ 17592186044416 ∧ l0_1.length ≤ 17592186044416 ∧ wfW l0_0 l0_1 = true then some (isWebC l0_0 l0_1) else none
theorem any_len (forks : List (List Int)) : (forks.map fun f => f.length != 3).any id = !(forks.all fun f => f.length == 3) := by
 induction forks with
 | nil => rfl
 | cons f F ih =>
  rw [List.map_cons, List.any_cons, ih, List.all_cons]
  show ((f.length != 3) || _) = _
  cases h : (f.length == 3) <;> simp [h, bne]
theorem any_root (n nl : Nat) (r : Nat → Nat) : (((List.range n).map r).map fun x => decide (nl ≤ x)).any id = !((List.range n).all fun v => decide (r v < nl)) := by
 induction List.range n with
 | nil => rfl
 | cons f F ih =>
  rw [List.map_cons, List.map_cons, List.any_cons, ih, List.all_cons]
  show (decide (nl ≤ r f) || _) = _
  by_cases h : r f < nl
  ·rw [decide_eq_true h, decide_eq_false (by omega)]; simp
  ·rw [decide_eq_false h, decide_eq_true (by omega)]; simp
set_option maxHeartbeats 4000000 in
set_option maxRecDepth 100000 in
theorem isWeb_walk (legs : List Int) (forks : List (List Int)) (Al : Option Addr) (cl : Nat) (Af : Option Addr) (cf : Nat) (h1 : legs.length ≤ 17592186044416) (h2 : forks.length ≤ 17592186044416) (hwf : ∀ p ∈ inc legs forks, (Lit.int .i64 p.1).wf = true) (w : World)
  (hl : Kd.C (Kd.int .i64) w Al legs.length legs) (hf : Kd.C (Kd.slice 2 (Kd.int .i64)) w Af forks.length forks) :
  Calls Try.prog 21 #[.agg #[.slice Al legs.length cl, .slice Af forks.length cf]] w fun e w' => e = .returned (.bool (isWebB legs forks)) ∧ Below w.heap.size w w' := by
 obtain ⟨N, hN⟩ : ∃ N, N = legs.length + forks.length := ⟨_, rfl⟩
 obtain ⟨I, hI⟩ : ∃ I, I = inc legs forks := ⟨_, rfl⟩
 obtain ⟨res, hres⟩ : ∃ res, res = isWebB legs forks := ⟨_, rfl⟩
 rw [← hres]
 have HRES := Aside0.mk hres
 unfold isWebB at hres
 have HBK := Aside0.mk (show (w.alloc (.cells #[.slice Al legs.length cl, .slice Af forks.length cf] 28)).heap[w.heap.size]? = some (.cells #[.slice Al legs.length cl, .slice Af forks.length cf] 28 (0, 0)) from new_at rfl)
 have HB1 := Aside0.mk (show Below w.heap.size w (w.alloc (.cells #[.slice Al legs.length cl, .slice Af forks.length cf] 28)) from below_alloc (Below.refl _ _) _)
 have c1 : (w.alloc (.cells #[.slice Al legs.length cl, .slice Af forks.length cf] 28)).cell? ⟨w.heap.size, 1, none⟩ = some (.slice Af forks.length cf) := (blk_cell HBK.out 1).trans rfl
 have HL := Aside0.mk hl
 have HF := Aside0.mk hf
 have HH1 := Aside0.mk h1
 have HH2 := Aside0.mk h2
 have HWF := Aside0.mk hwf
 have HN := Aside0.mk hN
 have HI := Aside0.mk hI
 by_cases h8 : 8 < N
 ·have t1 : decide ((8 : Int) < (N : Int)) = true := decide_eq_true (by omega)
  have t2 : decide (8 < N) = true := decide_eq_true h8
  have HE := Aside0.mk (show res = false from by rw [hres, decide_eq_false (by omega)]; rfl)
  clear hl hf h1 h2 hwf hN hI hres c1
  go_enter Try.func21, Try.ntmps21
  go_wp2_with (first
   | (go_at_call 93; refine (nodes_walk legs.length forks.length w.heap.size Al cl Af cf (by have := HH1.out; have := HH2.out; omega) _ HBK.out).mono ?_; rintro e w1 ⟨rfl, ⟨nd, rfl⟩⟩; rw [← HN.out]))
  go_ret
  exact ⟨by rw [HE.out]; rfl, pw_below_drewN HB1.out _⟩
 ·have t1 : decide ((8 : Int) < (N : Int)) = false := decide_eq_false (by omega)
  have t2 : decide (8 < N) = false := decide_eq_false h8
  have H8 := Aside0.mk (show N ≤ 8 from by omega)
  rw [decide_eq_true (show legs.length + forks.length ≤ 8 from by omega), Bool.true_and] at hres
  cases ha : (forks.all fun f => f.length == 3) with
  | false =>
   rw [ha, Bool.false_and, Bool.false_and] at hres
   have HA := Aside0.mk ha
   have HE := Aside0.mk hres
   clear hl hf h1 h2 hwf hN hI hres ha
   go_enter Try.func21, Try.ntmps21
   go_wp2_with (first
    | (go_at_call 93; refine (nodes_walk legs.length forks.length w.heap.size Al cl Af cf (by have := H8.out; have := HN.out; omega) _ HBK.out).mono ?_; rintro e w1 ⟨rfl, ⟨nd, rfl⟩⟩; rw [← HN.out])
    | (go_at_call 94; refine (web_ContainsFunc forks (by have := H8.out; have := HN.out; omega) Af cf _ (Kd.C_drewN (Kd.C_below HF.out HB1.out) _)).mono ?_; rw [any_len, HA.out]; rintro e w1 ⟨rfl, ⟨nd2, rfl⟩⟩))
   go_ret
   exact ⟨by rw [HE.out]; rfl, pw_below_drewN HB1.out _⟩
  | true =>
   rw [ha, Bool.true_and] at hres
   have HA := Aside0.mk ha
   have H3 := Aside0.mk (show ∀ f ∈ forks, f.length = 3 from fun f hf => eq_of_beq (List.all_eq_true.1 ha f hf))
   have HE := Aside0.mk hres
   clear hl hf h1 h2 hwf hN hI hres ha
   go_enter Try.func21, Try.ntmps21
   go_wp2_with (first
    | (go_at_call 93; refine (nodes_walk legs.length forks.length w.heap.size Al cl Af cf (by have := H8.out; have := HN.out; omega) _ HBK.out).mono ?_; rintro e w1 ⟨rfl, ⟨nd, rfl⟩⟩; rw [← HN.out])
    | (go_at_call 94; refine (web_ContainsFunc forks (by have := H8.out; have := HN.out; omega) Af cf _ (Kd.C_drewN (Kd.C_below HF.out HB1.out) _)).mono ?_; rw [any_len, HA.out]; rintro e w1 ⟨rfl, ⟨nd2, rfl⟩⟩)
    | (go_at_call 96; refine (stands_walk legs forks w.heap.size Al cl Af cf (by have := H8.out; have := HN.out; omega) H3.out HWF.out _ (blk_drewN HBK.out _) (Kd.C_drewN (Kd.C_below HL.out HB1.out) _) (Kd.C_drewN (Kd.C_below HF.out HB1.out) _)).mono ?_; rintro e w1 ⟨rfl, hgr1, hb1⟩; have hb2 := below_step (pw_below_drewN HB1.out _) hb1; generalize hM : (World.drewN _ _).heap.size = Bm at hgr1 ⊢; have HBM := Aside0.mk hM; have HGR := Aside0.mk hgr1; have HBB := Aside0.mk hb2; have hs1 := hb1.size; have HBS := Aside0.mk hb1; clear hgr1 hb1 hb2 hM hs1)
    | (at_range; refine wpList_range_own _ rfl _ 81 rfl 2 83 webKey Try.underlying81 _ _ (inc legs forks).length _ rfl (groups_own HGR.out) ?_; intro w2 hrg2 hg2 hs2)
    | go_in)
   go_frame
   rw [← HI.out] at hrg2
   have HRG2 := Aside0.mk hrg2
   have HG2 := Aside0.mk hg2
   have HL2 : Aside0 (∀ e, Maps.has (GTo I I.length) (keyL e) = ((!(ends I e).isEmpty) && !([] : List Int).contains e)) := ⟨fun e => by
    have h := GTo_has I e I.length (Nat.le_refl _)
    rw [List.take_length] at h
    rw [h]; simp⟩
   have HBK1 := Aside0.mk (blk_below (blk_drewN HBK.out _) HBS.out)
   have HLEN := Aside0.mk (show I.length ≤ 24 from by rw [HI.out, inc_len H3.out]; have := H8.out; have := HN.out; omega)
   clear hrg2 hg2 hs2
   go_loopw [3] (fun _ wr => ∃ (left : Lit → Bool) (cnt : Nat) (L : List Int), Aside0 (wr.ranges Try.prog 2 (rowElem (H := Unit) w1 (Bm + 1) 3 .i64) Bm w1.heap.size I.length (GTo I I.length) left cnt) ∧ Aside0 (∀ e, left (keyL e) = ((!(ends I e).isEmpty) && !L.contains e)) ∧ Aside0 (∀ e ∈ L, (0 ≤ e ∧ e ≤ 1000) ∧ (ends I e).length = 2) ∧ Aside0 (w1.grownBy wr none))
    (fun _ wr => wr.rangeLeft Bm w1.heap.size)
   case atStart => exact ⟨_, _, [], HRG2, HL2, ⟨by simp⟩, HG2⟩
   case round =>
    clear HRG2 HL2 HG2
    obtain ⟨left, cnt, L, HRG, HLE, HLI, HG⟩ := hrel
    go_wp2_with (first
     | (at_next; refine wpList_next_ranges (α := Int) (β := Value) _ rfl _ rfl 2 webKey (rowElem (H := Unit) w1 (Bm + 1) 3 .i64) (Value.int .i64) id (fun key kl h => inv_key h) (fun v y _ => ⟨v, rfl⟩) Bm w1.heap.size I.length (GTo I I.length) left cnt rfl HRG.out ?_ ?_)
     | go_in)
    ·intro hc0 hl0
     have htw : twiceB legs forks = true := by
      unfold twiceB
      rw [← HI.out, List.all_eq_true]
      intro p hp
      have h := HLE.out p.1
      rw [hl0] at h
      have hu := mem_ends.2 (show (p.1, p.2) ∈ I from hp)
      have hc : L.contains p.1 = true := by
       cases hc : L.contains p.1 with
       | true => rfl
       | false =>
        rw [hc] at h
        cases hh : ends I p.1 with
        | nil => rw [hh] at hu; exact absurd hu (by simp)
        | cons _ _ => rw [hh] at h; simp at h
      have := HLI.out p.1 (List.contains_iff_mem.1 hc)
      rw [decide_eq_true this.1, this.2]; rfl
     have hb := below_step HBB.out (grown_below HG.out)
     have hres : res = rootedB legs forks := by rw [HE.out, htw, Bool.true_and]
     have HRS := Aside0.mk hres
     have HTW := Aside0.mk (twice_two htw)
     have HBR := Aside0.mk hb
     have HBKR := Aside0.mk (blk_grown HBK1.out HG.out (by simp))
     have hmf : ∀ (fn : Fn) (first cap : Array Value) (w : World), (Instr.makeFunc fn first cap).run Try.prog w = .ok (.func fn first cap) w := fun _ _ _ _ => rfl
     clear htw hb hres hl0 hc0
     go_wp2_with (first
      | (go_at_call 99; refine (partsOf_walk legs forks N w.heap.size Al cl Af cf HN.out H8.out H3.out HWF.out (by rw [HN.out]; exact HTW.out) _ HBKR.out (Kd.C_below HL.out HBR.out) (Kd.C_below HF.out HBR.out)).mono ?_; rintro e w5 ⟨v5, rfl, ho5, hb5⟩; obtain ⟨A5, c5, rfl, hl5, hC5⟩ := Kd.R_reads ho5; have HC5 := Aside0.mk hC5; have HB5 := Aside0.mk hb5; have HBK5 := Aside0.mk (blk_below HBKR.out hb5); clear ho5 hb5 hl5 hC5)
      | (go_at_call 98; refine (web_ContainsFunc2 ((List.range N).map (lbl (inc legs forks))) (by have := H8.out; simp; omega) A5 c5 legs.length w.heap.size Al cl _ HC5.out ((blk_cell HBK5.out 0).trans rfl)).mono ?_; rw [any_root]; rintro e w6 ⟨rfl, ⟨nd6, rfl⟩⟩))
     go_ret
     refine ⟨?_, pw_below_drewN (below_step HBR.out HB5.out) _⟩
     rw [HRS.out, rootedB, ← HN.out]
     first | rfl | simp
    ·intro x c kl d ps w3 cnt3 hkey hlk hR hat hrg3 hlt3 hg3 hs3 hen
     obtain ⟨rfl, hown, hne⟩ := come_of hkey hR hat
     obtain ⟨u, hu⟩ := List.exists_mem_of_ne_nil _ hne
     obtain ⟨A4, c4, rfl⟩ := Kd.R_slice (R_of_own hown.1)
     rw [ints_len] at hen
     obtain ⟨ln, hln⟩ : ∃ ln, ln = (ends I x).length := ⟨_, rfl⟩
     rw [← hln] at hen
     simp only [ints_len, ← hln]
     have HLN := Aside0.mk hln
     have HU := Aside0.mk (mem_ends.1 hu)
     have HLK := Aside0.mk hlk
     have HLT3 := Aside0.mk hlt3
     have HRG3 := Aside0.mk hrg3
     have HG3 := Aside0.mk (HG.out.andThen hg3 (fun j hj => by cases hj; exact Or.inl (Nat.le_refl _)) : w1.grownBy w3 none)
     have HIN := Aside0.mk (in_f x 0 1000)
     clear hln hu hne hown hR hat hkey hlk hlt3 hrg3 hg3 hs3
     have hbad : ¬ ((0 ≤ x ∧ x ≤ 1000) ∧ ln = 2) → res = false := by
      intro hb
      rw [HE.out]
      have : twiceB legs forks = false := by
       cases htw : twiceB legs forks with
       | false => rfl
       | true =>
        exfalso
        unfold twiceB at htw
        rw [← HI.out] at htw
        have := List.all_eq_true.1 htw _ HU.out
        simp only [Bool.and_eq_true, decide_eq_true_eq, beq_iff_eq] at this
        exact hb ⟨this.1, by rw [HLN.out]; exact this.2⟩
      rw [this]; rfl
     have HBAD := Aside0.mk hbad
     clear hbad
     have hbel := Aside0.mk (below_step HBB.out (grown_below HG3.out))
     cases hin : decide (0 ≤ x ∧ x ≤ 1000) with
     | false =>
      have HE2 := Aside0.mk (HBAD.out (fun h => by rw [decide_eq_true h.1] at hin; exact absurd hin (by simp)))
      have HIN2 := Aside0.mk (HIN.out.trans (congrArg some hin))
      clear hin
      go_wp2_with (first
       | (go_at_call 97; refine (impl_in.calls x 0 1000 false _ HIN2.out).mono ?_; rintro e w4 ⟨rfl, ⟨⟨nd4, rfl⟩⟩⟩))
      go_ret
      exact ⟨by rw [HE2.out]; rfl, pw_below_drewN hbel.out _⟩
     | true =>
      have HIN2 := Aside0.mk (HIN.out.trans (congrArg some hin))
      have HIX := Aside0.mk (of_decide_eq_true hin)
      clear hin
      by_cases h2 : ln = 2
      ·have t3 : ((ln : Int) == 2) = true := by simp; omega
       have H22 := Aside0.mk h2
       clear h2
       go_wp2_with (first
        | (go_at_call 97; refine (impl_in.calls x 0 1000 true _ HIN2.out).mono ?_; rintro e w4 ⟨rfl, ⟨⟨nd4, rfl⟩⟩⟩))
       go_roundw
       case rel =>
        refine ⟨_, cnt3, L ++ [x], ⟨HRG3.out.kept (grown_drewN (grown_refl _ none) _) (by simp) (by simp)⟩, ⟨fun e => ?_⟩, ⟨fun e he => ?_⟩, ⟨grown_drewN HG3.out _⟩⟩
        ·show (left (keyL e) && !(keyL e).sameKey (keyL x)) = _
         rw [HLE.out e, same_keyL]
         exact left_step _ _ _ _
        ·rcases List.mem_append.1 he with q | q
         ·exact HLI.out e q
         ·rw [List.mem_singleton] at q; rw [q]; exact ⟨HIX.out, by rw [← HLN.out]; exact H22.out⟩
       case measure =>
        have h1 := HRG3.out.left_eq
        have h2 := HRG.out.left_eq
        have h3 := HLT3.out
        show World.rangeLeft w3 Bm w1.heap.size < _
        rw [h1, h2]; exact h3
      ·have t3 : ((ln : Int) == 2) = false := by simp; omega
       have HE2 := Aside0.mk (HBAD.out (fun h => h2 h.2))
       clear h2
       go_wp2_with (first
        | (go_at_call 97; refine (impl_in.calls x 0 1000 true _ HIN2.out).mono ?_; rintro e w4 ⟨rfl, ⟨⟨nd4, rfl⟩⟩⟩))
       go_ret
       exact ⟨by rw [HE2.out]; rfl, pw_below_drewN hbel.out _⟩
theorem impl_IsWeb.calls (A0_0 : Option Addr) (c0_0 : Nat) (l0_0 : List Int) (A0_1 : Option Addr) (c0_1 : Nat) (l0_1 : List (List Int)) (r : Bool) (w : World) (hr0_0 : Kd.C (Kd.int .i64) w A0_0 l0_0.length l0_0) (hc0_0 : l0_0.length ≤ c0_0) (hr0_1 : Kd.C (Kd.slice 2 (Kd.int .i64)) w A0_1 l0_1.length l0_1) (hc0_1 : l0_1.length ≤ c0_1) (h : impl_IsWeb.f l0_0 l0_1 = some r) :
  Calls Try.prog 21 #[.agg #[.slice A0_0 l0_0.length c0_0, .slice A0_1 l0_1.length c0_1]] w fun e w' => e = .returned (.bool r) ∧ Below w.heap.size w w' := by
 unfold impl_IsWeb.f at h
 by_cases hk : l0_0.length ≤ 17592186044416 ∧ l0_1.length ≤ 17592186044416 ∧ wfW l0_0 l0_1 = true
 ·rw [if_pos hk] at h
  obtain rfl := Option.some.inj h
  rw [isWebC_eq]
  exact isWeb_walk l0_0 l0_1 A0_0 c0_0 A0_1 c0_1 hk.1 hk.2.1 (fun p hp => List.all_eq_true.1 hk.2.2 p hp) w hr0_0 hr0_1
 ·rw [if_neg hk] at h; exact absurd h (by simp)
end
end Go.Proofs.Ytnlhhbnoccobmaa.F
end
