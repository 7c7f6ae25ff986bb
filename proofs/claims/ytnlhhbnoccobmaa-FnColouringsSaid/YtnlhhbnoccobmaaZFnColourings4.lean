/- Words, walks and plain laws that the row of the law FnColourings uses. -/
import Derived.Test.YtnlhhbnoccobmaaZFnColourings3
import Derived.Laws.BitsLemmas
import Derived.Laws.Bits64
import Derived.WalkSpells
import Derived.BigQuiet
import Derived.Deep.RegionWith
import Derived.Deep.RegionHeld3
import Derived.RangeFuncBox
import Derived.RangeFuncLeaves
import Derived.RangeFuncNested
import Derived.RangeFuncBound
import Derived.RangeFuncCalls
import Derived.Shelf.Abstract
import Derived.Shelf.RegionOpen
import Derived.WalkKit
import Derived.OwnWalkIn
import Derived.TacticsInMore
import Derived.LoopNIn
import Derived.LoopIn
section
namespace Go.Proofs.Ytnlhhbnoccobmaa.F
open Go.RowKit Go.Proofs.YtnlhhbnoccobmaaW.PrintWords Go.Proofs.YtnlhhbnoccobmaaW.PrintLast Go.Proofs.YtnlhhbnoccobmaaW.PrintMore
attribute [local go_sem] max2_int min2_int max_two min_two max_three min_three max_four min_four   
set_option linter.unusedVariables false
set_option linter.unusedSimpArgs false
mutual
def impl_colouring.l0 : Nat → List Int → List Int → List Int → Int → Int → Option (List Int)
 | 0, _, _, _, _, _ => none
 | k + 1, x3, x4, x15, x16, x17 => if x17 < x16 then (if 0 ≤ x17 then (if x17 < (x15.length : Int) then (impl_colouring.l1 k x3 x4 x17 (rd x15 x17) x15 x16 x17 x4 (x4.length : Int) 0) else (none)) else (none)) else (some x3)
def impl_colouring.l1 : Nat → List Int → List Int → Int → Int → List Int → Int → Int → List Int → Int → Int → Option (List Int)
 | 0, _, _, _, _, _, _, _, _, _, _ => none
 | k + 1, x3, x4, x5, x6, x15, x16, x17, x22, x23, x24 => if x24 < x23 then (if 0 ≤ x24 then (if x24 < (x22.length : Int) then (if x24 < (x3.length : Int) then (impl_colouring.l1 k (x3.set (x24 : Int).toNat (wrap64 ((rd x3 x24) + (wrap64 (x6 * (rd x22 x24)))))) x4 x5 x6 x15 x16 x17 x22 x23 (wrap64 (x24 + 1))) else (none)) else (none)) else (none)) else ((impl_times.f k x4 x5).bind fun t1171015 => (impl_colouring.l0 k x3 t1171015 x15 x16 (wrap64 (x17 + 1))))
end
def impl_colouring.f (k : Nat) (l0 : List Int) : Option (List Int) := (impl_chords.f l0).bind fun t1171001 => (if 0 ≤ (wrap64 (t1171001 + 1)) then (if (wrap64 (t1171001 + 1) : Int).toNat ≤ 35184372088832 then ((impl_classes.f l0).bind fun t1171008 => (impl_colouring.l0 k (List.replicate (wrap64 (t1171001 + 1) : Int).toNat 0) (([1] : List Int)) t1171008 (t1171008.length : Int) 0)) else (none)) else (none))
theorem impl_colouring.mono_l : ∀ k, (∀ y0 y1 y2 y3 y4, LeO (impl_colouring.l0 k y0 y1 y2 y3 y4) (impl_colouring.l0 (k + 1) y0 y1 y2 y3 y4)) ∧ (∀ y0 y1 y2 y3 y4 y5 y6 y7 y8 y9, LeO (impl_colouring.l1 k y0 y1 y2 y3 y4 y5 y6 y7 y8 y9) (impl_colouring.l1 (k + 1) y0 y1 y2 y3 y4 y5 y6 y7 y8 y9))
 | 0 => ⟨fun _ _ _ _ _ r h => by simp [impl_colouring.l0] at h, fun _ _ _ _ _ _ _ _ _ _ r h => by simp [impl_colouring.l1] at h⟩
 | k + 1 => by
  obtain ⟨ih0, ih1⟩ := impl_colouring.mono_l k
  refine ⟨?_, ?_⟩
  ·intro y0 y1 y2 y3 y4
   unfold impl_colouring.l0
   repeat' first
   | (with_reducible exact ih0 _ _ _ _ _)
   | (with_reducible exact ih1 _ _ _ _ _ _ _ _ _ _)
   | (with_reducible exact impl_times.mono _ _ _)
   | (with_reducible exact LeO.refl _)
   | (with_reducible exact LeO.none _)
   | (with_reducible refine LeO.ite ?_ ?_)
   | (with_reducible refine LeO.bind ?_ (fun _ => ?_))
   | exact ih0 _ _ _ _ _
   | exact ih1 _ _ _ _ _ _ _ _ _ _
   | exact impl_times.mono _ _ _
   | exact LeO.none _
   | refine LeO.ite ?_ ?_
   | refine LeO.bind ?_ (fun _ => ?_)
  ·intro y0 y1 y2 y3 y4 y5 y6 y7 y8 y9
   unfold impl_colouring.l1
   repeat' first
   | (with_reducible exact ih0 _ _ _ _ _)
   | (with_reducible exact ih1 _ _ _ _ _ _ _ _ _ _)
   | (with_reducible exact impl_times.mono _ _ _)
   | (with_reducible exact LeO.refl _)
   | (with_reducible exact LeO.none _)
   | (with_reducible refine LeO.ite ?_ ?_)
   | (with_reducible refine LeO.bind ?_ (fun _ => ?_))
   | exact ih0 _ _ _ _ _
   | exact ih1 _ _ _ _ _ _ _ _ _ _
   | exact impl_times.mono _ _ _
   | exact LeO.none _
   | refine LeO.ite ?_ ?_
   | refine LeO.bind ?_ (fun _ => ?_)
theorem impl_colouring.mono : ∀ a0 k, LeO (impl_colouring.f k a0) (impl_colouring.f (k + 1) a0) := by
 intro a0 k
 obtain ⟨ih0, ih1⟩ := impl_colouring.mono_l k
 unfold impl_colouring.f
 repeat' first
   | (with_reducible exact ih0 _ _ _ _ _)
   | (with_reducible exact ih1 _ _ _ _ _ _ _ _ _ _)
   | (with_reducible exact impl_times.mono _ _ _)
   | (with_reducible exact LeO.refl _)
   | (with_reducible exact LeO.none _)
   | (with_reducible refine LeO.ite ?_ ?_)
   | (with_reducible refine LeO.bind ?_ (fun _ => ?_))
   | exact ih0 _ _ _ _ _
   | exact ih1 _ _ _ _ _ _ _ _ _ _
   | exact impl_times.mono _ _ _
   | exact LeO.none _
   | refine LeO.ite ?_ ?_
   | refine LeO.bind ?_ (fun _ => ?_)
set_option maxHeartbeats 8000000 in
set_option maxRecDepth 100000 in
theorem impl_colouring.calls (k : Nat) (A0 : Option Addr) (c0 : Nat) (l0 : List Int) (r : List Int) (w : World) (hr0 : Kd.C (Kd.int .i64) w A0 l0.length l0) (hc0 : l0.length ≤ c0) (h : impl_colouring.f k l0 = some r) :
  Calls Try.prog 117 #[.slice A0 l0.length c0] w fun e w' => ∃ v0_ : Value, e = .returned (v0_) ∧ Kd.R (Kd.int .i64) 2 w' w.heap.size (fun _ => True) v0_ r ∧ Below w.heap.size w w' := by
 have HR0 := Aside0.mk hr0
 have HC0 := Aside0.mk hc0
 clear hr0 hc0
 have HB := Aside0.mk (Below.refl w.heap.size w)
 have H : ((impl_chords.f l0).bind fun t1171001 => (if 0 ≤ (wrap64 (t1171001 + 1)) then (if (wrap64 (t1171001 + 1) : Int).toNat ≤ 35184372088832 then ((impl_classes.f l0).bind fun t1171008 => (impl_colouring.l0 k (List.replicate (wrap64 (t1171001 + 1) : Int).toNat 0) (([1] : List Int)) t1171008 (t1171008.length : Int) 0)) else (none)) else (none))) = some r := h
 clear h
 replace H := Option.bind_eq_some_iff.mp H
 obtain ⟨t1171001, A20, H⟩ := H
 replace H : (if 0 ≤ (wrap64 (t1171001 + 1)) then (if (wrap64 (t1171001 + 1) : Int).toNat ≤ 35184372088832 then ((impl_classes.f l0).bind fun t1171008 => (impl_colouring.l0 k (List.replicate (wrap64 (t1171001 + 1) : Int).toNat 0) (([1] : List Int)) t1171008 (t1171008.length : Int) 0)) else (none)) else (none)) = some r := H
 have A2 := Aside0.mk A20
 clear A20
 obtain ⟨ji3, hji3⟩ : ∃ j_ : Int, (wrap64 (t1171001 + 1)) = j_ := ⟨_, rfl⟩
 replace H : (if 0 ≤ (ji3) then (if (ji3 : Int).toNat ≤ 35184372088832 then ((impl_classes.f l0).bind fun t1171008 => (impl_colouring.l0 k (List.replicate (ji3 : Int).toNat 0) (([1] : List Int)) t1171008 (t1171008.length : Int) 0)) else (none)) else (none)) = some r := by first | (rw [hji3] at H; exact H) | (simp only [hji3] at H ⊢; exact H)
 (try rw [hji3] at A2)
 have hji3w : (IntKind.i64.wrap (t1171001 + 1)) = ji3 := (i64_w _).trans hji3
 by_cases c4 : 0 ≤ (ji3)
 ·rw [if_pos c4] at H
  have c4b0 := eq_true c4
  have c4b1 : decide (0 ≤ (ji3)) = true := decide_eq_true c4
  clear c4
  by_cases c5 : (ji3 : Int).toNat ≤ 35184372088832
  ·rw [if_pos c5] at H
   have c5b0 := eq_true c5
   have c5b1 : decide ((ji3 : Int).toNat ≤ 35184372088832) = true := decide_eq_true c5
   clear c5
   obtain ⟨y1171002, hy1171002⟩ : ∃ y_ : List Int, y_ = (List.replicate (ji3 : Int).toNat 0) := ⟨_, rfl⟩
   replace H : ((impl_classes.f l0).bind fun t1171008 => (impl_colouring.l0 k y1171002 (([1] : List Int)) t1171008 (t1171008.length : Int) 0)) = some r := by first | (rw [hy1171002]; with_reducible exact H) | (have H2_ := (Option.bind_some _ _).symm.trans H; rw [hy1171002]; with_reducible exact H2_) | (have H2_ := (Option.bind_some _ _).symm.trans H; with_reducible exact H2_) | with_reducible exact H | (rw [hy1171002]; exact H) | exact H
   have Ny1171002 := Aside0.mk hy1171002
   clear hy1171002
   obtain ⟨y1171005, hy1171005⟩ : ∃ y_ : List Int, y_ = (([1] : List Int)) := ⟨_, rfl⟩
   replace H : ((impl_classes.f l0).bind fun t1171008 => (impl_colouring.l0 k y1171002 y1171005 t1171008 (t1171008.length : Int) 0)) = some r := by first | (rw [hy1171005]; with_reducible exact H) | (have H2_ := (Option.bind_some _ _).symm.trans H; rw [hy1171005]; with_reducible exact H2_) | (have H2_ := (Option.bind_some _ _).symm.trans H; with_reducible exact H2_) | with_reducible exact H | (rw [hy1171005]; exact H) | exact H
   have Ny1171005 := Aside0.mk hy1171005
   clear hy1171005
   replace H := Option.bind_eq_some_iff.mp H
   obtain ⟨t1171008, A60, H⟩ := H
   replace H : (impl_colouring.l0 k y1171002 y1171005 t1171008 (t1171008.length : Int) 0) = some r := H
   have A6 := Aside0.mk A60
   clear A60
   have H' := Aside0.mk H
   clear H
   go_enter Try.func117, Try.ntmps117
   go_wp2_with (first | ((with_reducible refine gate_callee (f := 173) rfl ?_); refine goesL_ (some 10) rfl rfl Try.func173 (by kernel_rfl) rfl #[.slice A0 l0.length c0] rfl (by (try simp only [List.map_toArray, List.map_cons, List.map_nil]); first | done | rfl | (simp only [List.length_drop, List.length_take]; rfl)) ?_; (with_reducible refine (impl_chords.calls _ _ l0 t1171001 _ ?side1 ?side2 A2.out).mono ?_); (case side1 => repeat (first | exact HR0.out | (with_reducible refine Kd.C_alloc ?_ _) | (with_reducible refine Kd.C_drewN ?_ _) | (with_reducible refine Kd.C_drew ?_))); (case side2 => exact HC0.out); rintro e w' ⟨rfl, ⟨nd, rfl⟩⟩; refine ⟨_, rfl, ?_⟩) | ((with_reducible refine gate_dst (N := 12) rfl ?_); refine Kd.R_make (Kd.int .i64) _ 2 rfl (N := 12) rfl 22 _ _ rfl ji3 rfl rfl Try.underlying22 (.int .i64 0) 8 info2 rfl (by decide) (by omega) 0 (ok := fun _ => True) (okp := fun _ => True) rfl (fun _ hk => hk) trivial (of_decide_eq_true (by first | (with_reducible assumption) | assumption)) (Nat.le_trans (Nat.mul_le_mul_right _ (of_decide_eq_true (by first | (with_reducible assumption) | assumption) : ji3.toNat ≤ 35184372088832)) (by omega)) (Below.refl _ _) (Nat.le_refl _) ?_; intro v1171003 w7 ho8 hb hg_ hnew_; clear hg_ hnew_; (first | rw [← Ny1171002.out] at ho8 | (simp only [Int.reduceToNat] at ho8; rw [← Ny1171002.out] at ho8)); have n0_ := Aside0.mk (Kd.R_lower ho8 (below_size (by repeat (first | (with_reducible first | exact HB.out | apply below_alloc | apply pw_below_drewN | apply below_drew1) | exact HB.out)))); have n1_ := Aside0.mk (below_step (by repeat (first | (with_reducible first | exact HB.out | apply below_alloc | apply pw_below_drewN | apply below_drew1) | exact HB.out)) hb); clear HB; have HO1171004 := n0_; have HB := n1_; clear n0_ n1_; clear hb ho8) | ((with_reducible refine gate_dst (N := 13) rfl ?_); refine Kd.R_lit (Kd.int .i64) _ 2 ?hg (N := 13) ?hd (xs := ([1] : List Int)) (inner := [.int .i64 1]) (ok := fun _ => True) (okp := fun _ => True) ?hr ?hp (fun _ hk => hk) trivial (Below.refl _ _) (Nat.le_refl _) (by simp) ?_; (case hd => rfl); (case hg => rfl); (case hr => first | (go_simp; done) | (go_simp; rfl)); (case hp => exact (Reps.one (show Kd.M (Kd.int .i64) _ _ _ 1 [.int .i64 1] from rfl) (Reps.none _ _))); intro v1171006 w9 ho10 hb hg_ hnew_; clear hg_ hnew_; (first | rw [← Ny1171005.out] at ho10 | (simp only [Int.reduceToNat] at ho10; rw [← Ny1171005.out] at ho10)); have n0_ := Aside0.mk (Kd.R_elder' (by (with_reducible repeat (first | apply Kd.R_alloc | apply Kd.R_drewN | apply Kd.R_drew)); exact HO1171004.out) (Kd.R_base ho10) hb); have n1_ := Aside0.mk (Kd.R_lower (Kd.R_new' ho10 (Kd.R_lt (by (with_reducible repeat (first | apply Kd.R_alloc | apply Kd.R_drewN | apply Kd.R_drew)); exact HO1171004.out))) (below_size (by repeat (first | (with_reducible first | exact HB.out | apply below_alloc | apply pw_below_drewN | apply below_drew1) | exact HB.out)))); have n2_ := Aside0.mk (below_step (by repeat (first | (with_reducible first | exact HB.out | apply below_alloc | apply pw_below_drewN | apply below_drew1) | exact HB.out)) hb); clear HO1171004; clear HB; have HO1171004 := n0_; have HO1171007 := n1_; have HB := n2_; clear n0_ n1_ n2_; clear hb ho10) | ((with_reducible refine gate_callee (f := 133) rfl ?_); refine goesL_ (some 15) rfl rfl Try.func133 (by kernel_rfl) rfl #[.slice A0 l0.length c0] rfl (by (try simp only [List.map_toArray, List.map_cons, List.map_nil]); first | done | rfl | (simp only [List.length_drop, List.length_take]; rfl)) ?_; (with_reducible refine (impl_classes.calls _ _ l0 t1171008 _ ?side1 ?side2 A6.out).mono ?_); (case side1 => repeat (first | exact (Kd.C_below HR0.out HB.out) | (with_reducible refine Kd.C_alloc ?_ _) | (with_reducible refine Kd.C_drewN ?_ _) | (with_reducible refine Kd.C_drew ?_))); (case side2 => exact HC0.out); rintro e w11 ⟨v1171009, rfl, ho0, hb⟩; refine ⟨_, rfl, ?_⟩; have n0_ := Aside0.mk (Kd.R_elder' (by (with_reducible repeat (first | apply Kd.R_alloc | apply Kd.R_drewN | apply Kd.R_drew)); exact HO1171004.out) (Kd.R_base ho0) hb); have n1_ := Aside0.mk (Kd.R_elder' (by (with_reducible repeat (first | apply Kd.R_alloc | apply Kd.R_drewN | apply Kd.R_drew)); exact HO1171007.out) (Kd.R_base ho0) hb); have n2_ := Aside0.mk (Kd.R_lower (Kd.R_new' (Kd.R_new' ho0 (Kd.R_lt (by (with_reducible repeat (first | apply Kd.R_alloc | apply Kd.R_drewN | apply Kd.R_drew)); exact HO1171004.out))) (Kd.R_lt (by (with_reducible repeat (first | apply Kd.R_alloc | apply Kd.R_drewN | apply Kd.R_drew)); exact HO1171007.out))) (below_size (by repeat (first | (with_reducible first | exact HB.out | apply below_alloc | apply pw_below_drewN | apply below_drew1) | exact HB.out)))); have n3_ := Aside0.mk (below_step (by repeat (first | (with_reducible first | exact HB.out | apply below_alloc | apply pw_below_drewN | apply below_drew1) | exact HB.out)) hb); clear HO1171004; clear HO1171007; clear HB; have HO1171004 := n0_; have HO1171007 := n1_; have HO1171010 := n2_; have HB := n3_; clear n0_ n1_ n2_ n3_; (try clear hb); (try clear hb2); (try clear hk); (try clear hi); (try clear ho0); obtain ⟨Ao12, co12, eo12⟩ := Kd.R_slice HO1171010.out; subst eo12))
   go_loopg [4, 17] k (fun kq v4 v17 w' => ∃ (x3_1 : List Int) (x4_1 : List Int) (x17_1 : Int), v17 = .int .i64 x17_1 ∧ Aside0 (impl_colouring.l0 kq x3_1 x4_1 t1171008 (t1171008.length : Int) x17_1 = some r) ∧ Aside0 (kq ≤ k) ∧ Aside0 (Kd.R (Kd.int .i64) 2 w' w.heap.size (fun k_ => some k_ ≠ (v4 : Value).ownBlock ∧ some k_ ≠ ((.slice Ao12 t1171008.length co12) : Value).ownBlock) v1171003 x3_1) ∧ Aside0 (Kd.R (Kd.int .i64) 2 w' w.heap.size (fun k_ => some k_ ≠ (v1171003 : Value).ownBlock ∧ some k_ ≠ ((.slice Ao12 t1171008.length co12) : Value).ownBlock) v4 x4_1) ∧ Aside0 (Kd.R (Kd.int .i64) 2 w' w.heap.size (fun k_ => some k_ ≠ (v1171003 : Value).ownBlock ∧ some k_ ≠ (v4 : Value).ownBlock) (.slice Ao12 t1171008.length co12) t1171008) ∧ Aside0 (Below w.heap.size w w'))
   case atStart => exact ⟨(y1171002), (y1171005), (0), (by first | rfl | (simp; done) | (simp [*]; done)), H', ⟨Nat.le_refl _⟩, ⟨by (with_reducible repeat (first | apply Kd.R_alloc | apply Kd.R_drewN | apply Kd.R_drew)); exact Kd.R_mono HO1171004.out (fun _ hk => ⟨hk.1.2, hk.2⟩)⟩, ⟨by (with_reducible repeat (first | apply Kd.R_alloc | apply Kd.R_drewN | apply Kd.R_drew)); exact Kd.R_mono HO1171007.out (fun _ hk => ⟨hk.1.2, hk.2⟩)⟩, ⟨by (with_reducible repeat (first | apply Kd.R_alloc | apply Kd.R_drewN | apply Kd.R_drew)); exact Kd.R_mono HO1171010.out (fun _ hk => ⟨hk.1.2, hk.2⟩)⟩, ⟨by repeat (first | (with_reducible first | exact HB.out | apply below_alloc | apply pw_below_drewN | apply below_drew1) | exact HB.out)⟩⟩
   case round =>
    clear H'
    try clear c1
    try clear p2
    try clear c4
    try clear c4b0
    try clear c4b1
    try clear c5
    try clear c5b0
    try clear c5b1
    try clear p6
    try clear c11
    obtain ⟨x3_1, x4_1, x17_1, rfl, HA, HK1, HO_3, HO_4, HO_15, HB⟩ := hrel
    cases gk with
    | zero => exact absurd HA.out (by simp [impl_colouring.l0])
    | succ k1 =>
     have H := HA.out
     clear HA
     simp only [impl_colouring.l0] at H
     by_cases c13 : x17_1 < (t1171008.length : Int)
     ·rw [if_pos c13] at H
      have c13b0 : decide (x17_1 < (t1171008.length : Int)) = true := decide_eq_true c13
      clear c13
      by_cases c14 : 0 ≤ x17_1
      ·rw [if_pos c14] at H
       have c14b0 : decide (0 ≤ x17_1) = true := decide_eq_true c14
       clear c14
       by_cases c15 : x17_1 < (t1171008.length : Int)
       ·rw [if_pos c15] at H
        have c15b0 : decide (x17_1 < (t1171008.length : Int)) = true := decide_eq_true c15
        clear c15
        have H' := Aside0.mk H
        clear H
        have p1171011 : 0 ≤ (x17_1 : Int) := of_decide_eq_true (by first | (with_reducible assumption) | assumption)
        have q1171011 : x17_1 < (t1171008.length : Int) := of_decide_eq_true (by first | (with_reducible assumption) | assumption)
        obtain ⟨ad1171011, e1171011, hx1171011_0⟩ := Kd.at_int (Kd.R_reads' HO_15.out).2.2 x17_1 p1171011 q1171011
        cases e1171011
        replace p1171011 := eq_true p1171011
        replace q1171011 := eq_true q1171011
        obtain ⟨Ao16, co16, eo16⟩ := Kd.R_slice HO_4.out
        subst eo16
        go_wp2
        go_loopg [24] k1 (fun kq v24 w' => ∃ (x3_2 : List Int) (x24_2 : Int), v24 = .int .i64 x24_2 ∧ Aside0 (impl_colouring.l1 kq x3_2 x4_1 x17_1 (rd t1171008 x17_1) t1171008 (t1171008.length : Int) x17_1 x4_1 (x4_1.length : Int) x24_2 = some r) ∧ Aside0 (kq ≤ k1) ∧ Aside0 (Kd.R (Kd.int .i64) 2 w' w.heap.size (fun k_ => some k_ ≠ ((.slice Ao16 x4_1.length co16) : Value).ownBlock ∧ some k_ ≠ ((.slice (some ad1171011) t1171008.length co12) : Value).ownBlock ∧ some k_ ≠ ((.slice Ao16 x4_1.length co16) : Value).ownBlock) v1171003 x3_2) ∧ Aside0 (Kd.R (Kd.int .i64) 2 w' w.heap.size (fun k_ => some k_ ≠ (v1171003 : Value).ownBlock ∧ some k_ ≠ ((.slice (some ad1171011) t1171008.length co12) : Value).ownBlock) (.slice Ao16 x4_1.length co16) x4_1) ∧ Aside0 (Kd.R (Kd.int .i64) 2 w' w.heap.size (fun k_ => some k_ ≠ (v1171003 : Value).ownBlock ∧ some k_ ≠ ((.slice Ao16 x4_1.length co16) : Value).ownBlock ∧ some k_ ≠ ((.slice Ao16 x4_1.length co16) : Value).ownBlock) (.slice (some ad1171011) t1171008.length co12) t1171008) ∧ Aside0 (Kd.R (Kd.int .i64) 2 w' w.heap.size (fun k_ => some k_ ≠ (v1171003 : Value).ownBlock ∧ some k_ ≠ ((.slice (some ad1171011) t1171008.length co12) : Value).ownBlock) (.slice Ao16 x4_1.length co16) x4_1) ∧ Aside0 (Below w.heap.size w w'))
        case atStart => exact ⟨(x3_1), (0), (by first | rfl | (simp; done) | (simp [*]; done)), H', ⟨Nat.le_refl _⟩, ⟨by (with_reducible repeat (first | apply Kd.R_alloc | apply Kd.R_drewN | apply Kd.R_drew)); exact Kd.R_mono HO_3.out (fun _ hk => ⟨hk.1, ⟨hk.2, hk.1⟩⟩)⟩, ⟨by (with_reducible repeat (first | apply Kd.R_alloc | apply Kd.R_drewN | apply Kd.R_drew)); exact HO_4.out⟩, ⟨by (with_reducible repeat (first | apply Kd.R_alloc | apply Kd.R_drewN | apply Kd.R_drew)); exact Kd.R_mono HO_15.out (fun _ hk => ⟨hk.1, ⟨hk.2, hk.2⟩⟩)⟩, ⟨by (with_reducible repeat (first | apply Kd.R_alloc | apply Kd.R_drewN | apply Kd.R_drew)); exact HO_4.out⟩, ⟨by repeat (first | (with_reducible first | exact HB.out | apply below_alloc | apply pw_below_drewN | apply below_drew1) | exact HB.out)⟩⟩
        case round =>
         clear H'
         try clear c1
         try clear p1
         try clear q1
         try clear hx1
         try clear p2
         try clear c4
         try clear c4b0
         try clear c4b1
         try clear c5
         try clear c5b0
         try clear c5b1
         try clear p6
         try clear c11
         try clear p11
         try clear q11
         try clear hx11
         try clear c13
         try clear c13b0
         try clear c14
         try clear c14b0
         try clear c15
         try clear c15b0
         try clear hx1171011_0
         try clear p1171011
         try clear p2
         try clear p6
         try clear q1171011
         obtain ⟨x3_2, x24_2, rfl, HA, HK2, HO_3, HO_4, HO_15, HO_22, HB⟩ := hrel
         cases gk with
         | zero => exact absurd HA.out (by simp [impl_colouring.l1])
         | succ k2 =>
          have H := HA.out
          clear HA
          simp only [impl_colouring.l1] at H
          by_cases c17 : x24_2 < (x4_1.length : Int)
          ·rw [if_pos c17] at H
           have c17b0 : decide (x24_2 < (x4_1.length : Int)) = true := decide_eq_true c17
           clear c17
           by_cases c18 : 0 ≤ x24_2
           ·rw [if_pos c18] at H
            have c18b0 : decide (0 ≤ x24_2) = true := decide_eq_true c18
            clear c18
            by_cases c19 : x24_2 < (x4_1.length : Int)
            ·rw [if_pos c19] at H
             have c19b0 : decide (x24_2 < (x4_1.length : Int)) = true := decide_eq_true c19
             clear c19
             by_cases c20 : x24_2 < (x3_2.length : Int)
             ·rw [if_pos c20] at H
              have c20b0 : decide (x24_2 < (x3_2.length : Int)) = true := decide_eq_true c20
              clear c20
              obtain ⟨y1171014, hy1171014⟩ : ∃ y_ : List Int, y_ = (x3_2.set (x24_2 : Int).toNat (wrap64 ((rd x3_2 x24_2) + (wrap64 ((rd t1171008 x17_1) * (rd x4_1 x24_2)))))) := ⟨_, rfl⟩
              replace H : (impl_colouring.l1 k2 y1171014 x4_1 x17_1 (rd t1171008 x17_1) t1171008 (t1171008.length : Int) x17_1 x4_1 (x4_1.length : Int) (wrap64 (x24_2 + 1))) = some r := by first | (rw [hy1171014]; with_reducible exact H) | (have H2_ := (Option.bind_some _ _).symm.trans H; rw [hy1171014]; with_reducible exact H2_) | (have H2_ := (Option.bind_some _ _).symm.trans H; with_reducible exact H2_) | with_reducible exact H | (rw [hy1171014]; exact H) | exact H
              have Ny1171014 := Aside0.mk hy1171014
              clear hy1171014
              have H' := Aside0.mk H
              clear H
              have p1171012 : 0 ≤ (x24_2 : Int) := of_decide_eq_true (by first | (with_reducible assumption) | assumption)
              have q1171012 : x24_2 < (x4_1.length : Int) := of_decide_eq_true (by first | (with_reducible assumption) | assumption)
              obtain ⟨ad1171012, e1171012, hx1171012_0⟩ := Kd.at_int (Kd.R_reads' HO_22.out).2.2 x24_2 p1171012 q1171012
              cases e1171012
              replace p1171012 := eq_true p1171012
              replace q1171012 := eq_true q1171012
              obtain ⟨Ao22, co22, eo22⟩ := Kd.R_slice HO_3.out
              subst eo22
              have p1171013 : 0 ≤ (x24_2 : Int) := of_decide_eq_true (by first | (with_reducible assumption) | assumption)
              have q1171013 : x24_2 < (x3_2.length : Int) := of_decide_eq_true (by first | (with_reducible assumption) | assumption)
              obtain ⟨ad1171013, e1171013, hx1171013_0⟩ := Kd.at_int (Kd.R_reads' HO_3.out).2.2 x24_2 p1171013 q1171013
              cases e1171013
              replace p1171013 := eq_true p1171013
              replace q1171013 := eq_true q1171013
              have p21 : 0 ≤ (x24_2 : Int) := of_decide_eq_true (by first | (with_reducible assumption) | assumption)
              have q21 : (x24_2 : Int) < ((x3_2.length : Int) : Int) := of_decide_eq_true (by first | (with_reducible assumption) | assumption)
              obtain ⟨go21, co21, eo21, gb21, gl21, cl21, HG21⟩ := Kd.R_form HO_3.out (by omega)
              (first | cases eo21 | (injection eo21 with ea_ en_ ec_; (first | subst ea_ | (injection ea_ with ea_; subst ea_)); subst ec_; clear en_))
              have GB21 := Aside0.mk gb21
              have GG21 := Aside0.mk HG21
              clear gb21 gl21 HG21
              (first | simp only [add_plain] at hx1171013_0 | skip)
              obtain ⟨hx21_0, hf21_0⟩ := Kd.R_celln 0 HO_3.out (x24_2 : Int) p21 q21
              replace p21 := eq_true p21
              replace q21 := eq_true q21
              have HP23 := Kd.R_putg HO_3.out (x24_2 : Int) (wrap64 ((rd x3_2 x24_2) + (wrap64 ((rd t1171008 x17_1) * (rd x4_1 x24_2)))))
              go_wp2_with (first | ((with_reducible refine gate_store (t := 2) (p := 37) rfl ?_); refine store_event (t := 2) (p := 37) (v := ?vo_w24) (w1 := (wr.setCell ⟨go21, (x24_2 : Int).toNat, none⟩ (.int .i64 (wrap64 ((rd x3_2 x24_2) + (wrap64 ((rd t1171008 x17_1) * (rd x4_1 x24_2)))))))) ?hg ?ho ?hn ?hr ?_; (case ho => rfl); (case hg => rfl); (case hn => rfl); (case hr => first | (go_simp; done) | (go_simp; rfl)); intro w24 hw; have hg : wr.grownBy w24 (some go21) := (by rw [hw]; exact HP23.2); have hp_ : Kd.R (Kd.int .i64) 2 w24 w.heap.size (fun k_ => some k_ ≠ (.slice (some ad1171012) x4_1.length co16 : Value).ownBlock ∧ some k_ ≠ (.slice (some ad1171011) t1171008.length co12 : Value).ownBlock ∧ some k_ ≠ (.slice (some ad1171012) x4_1.length co16 : Value).ownBlock) (.slice (some ⟨go21, 0, none⟩) x3_2.length co22) y1171014 := (by rw [hw, Ny1171014.out]; exact HP23.1); clear HP23; have n0_ := Aside0.mk (hp_); have n1_ := Aside0.mk (Kd.R_after (v := (.slice (some ⟨go21, 0, none⟩) x3_2.length co22)) (v1 := (.slice (some ⟨go21, 0, none⟩) x3_2.length co22)) (ok := (fun k_ => some k_ ≠ (.slice (some ad1171011) t1171008.length co12 : Value).ownBlock)) (by (with_reducible repeat (first | apply Kd.R_alloc | apply Kd.R_drewN | apply Kd.R_drew)); exact Kd.R_mono HO_4.out (fun _ hk => ⟨hk.2, hk.1⟩)) hg (.inl rfl)); have n2_ := Aside0.mk (Kd.R_after (v := (.slice (some ⟨go21, 0, none⟩) x3_2.length co22)) (v1 := (.slice (some ⟨go21, 0, none⟩) x3_2.length co22)) (ok := (fun k_ => some k_ ≠ (.slice (some ad1171012) x4_1.length co16 : Value).ownBlock ∧ some k_ ≠ (.slice (some ad1171012) x4_1.length co16 : Value).ownBlock)) (by (with_reducible repeat (first | apply Kd.R_alloc | apply Kd.R_drewN | apply Kd.R_drew)); exact Kd.R_mono HO_15.out (fun _ hk => ⟨⟨hk.2.1, hk.2.2⟩, hk.1⟩)) hg (.inl rfl)); have n3_ := Aside0.mk (Kd.R_after (v := (.slice (some ⟨go21, 0, none⟩) x3_2.length co22)) (v1 := (.slice (some ⟨go21, 0, none⟩) x3_2.length co22)) (ok := (fun k_ => some k_ ≠ (.slice (some ad1171011) t1171008.length co12 : Value).ownBlock)) (by (with_reducible repeat (first | apply Kd.R_alloc | apply Kd.R_drewN | apply Kd.R_drew)); exact Kd.R_mono HO_22.out (fun _ hk => ⟨hk.2, hk.1⟩)) hg (.inl rfl)); have n4_ := Aside0.mk ((by rw [hw]; exact below_set (HB.out) GB21.out : Below w.heap.size w w24)); clear HO_3; clear HO_4; clear HO_15; clear HO_22; clear HB; have HO_3 := n0_; have HO_4 := n1_; have HO_15 := n2_; have HO_22 := n3_; have HB := n4_; clear n0_ n1_ n2_ n3_ n4_; clear hg hw hp_))
              go_roundg k2
              case measure => have := HK1.out; have := HK2.out; omega
              case rel => exact ⟨(y1171014), (wrap64 (x24_2 + 1)), (by first | rfl | (simp; done) | (simp [*]; done)), H', ⟨by have := HK1.out; have := HK2.out; omega⟩, ⟨by (with_reducible repeat (first | apply Kd.R_alloc | apply Kd.R_drewN | apply Kd.R_drew)); exact HO_3.out⟩, ⟨by (with_reducible repeat (first | apply Kd.R_alloc | apply Kd.R_drewN | apply Kd.R_drew)); exact Kd.R_mono HO_4.out (fun _ hk => ⟨hk.2, hk.1⟩)⟩, ⟨by (with_reducible repeat (first | apply Kd.R_alloc | apply Kd.R_drewN | apply Kd.R_drew)); exact Kd.R_mono HO_15.out (fun _ hk => ⟨hk.2, ⟨hk.1.1, hk.1.2⟩⟩)⟩, ⟨by (with_reducible repeat (first | apply Kd.R_alloc | apply Kd.R_drewN | apply Kd.R_drew)); exact Kd.R_mono HO_22.out (fun _ hk => ⟨hk.2, hk.1⟩)⟩, ⟨by repeat (first | (with_reducible first | exact HB.out | apply below_alloc | apply pw_below_drewN | apply below_drew1) | exact HB.out)⟩⟩
             ·rw [if_neg c20] at H
              exact absurd H (by simp)
            ·rw [if_neg c19] at H
             exact absurd H (by simp)
           ·rw [if_neg c18] at H
            exact absurd H (by simp)
          ·rw [if_neg c17] at H
           have c17b0 : decide (x24_2 < (x4_1.length : Int)) = false := decide_eq_false c17
           clear c17
           replace H := Option.bind_eq_some_iff.mp H
           obtain ⟨t1171015, A250, H⟩ := H
           replace H : (impl_colouring.l0 k2 x3_2 t1171015 t1171008 (t1171008.length : Int) (wrap64 (x17_1 + 1))) = some r := H
           have A25 := Aside0.mk A250
           clear A250
           have H' := Aside0.mk H
           clear H
           go_wp2_with (first | ((with_reducible refine gate_callee (f := 174) rfl ?_); refine goesL_ (some 41) rfl rfl Try.func174 (by kernel_rfl) rfl #[.slice Ao16 x4_1.length co16, .int .i64 x17_1] rfl (by (try simp only [List.map_toArray, List.map_cons, List.map_nil]); first | done | rfl | (simp only [List.length_drop, List.length_take]; rfl)) ?_; (with_reducible refine (impl_times.calls k2 _ _ x4_1 x17_1 t1171015 _ ?side1 ?side2 A25.out).mono ?_); (case side1 => repeat (first | exact (Kd.R_reads' HO_4.out).2.2 | (with_reducible refine Kd.C_alloc ?_ _) | (with_reducible refine Kd.C_drewN ?_ _) | (with_reducible refine Kd.C_drew ?_))); (case side2 => exact (Kd.R_reads' HO_4.out).2.1); rintro e w26 ⟨v1171016, rfl, ho0, hb⟩; refine ⟨_, rfl, ?_⟩; have n0_ := Aside0.mk (Kd.R_elder' (by (with_reducible repeat (first | apply Kd.R_alloc | apply Kd.R_drewN | apply Kd.R_drew)); exact HO_3.out) (Kd.R_base ho0) hb); have n1_ := Aside0.mk (Kd.R_elder' (by (with_reducible repeat (first | apply Kd.R_alloc | apply Kd.R_drewN | apply Kd.R_drew)); exact HO_4.out) (Kd.R_base ho0) hb); have n2_ := Aside0.mk (Kd.R_elder' (by (with_reducible repeat (first | apply Kd.R_alloc | apply Kd.R_drewN | apply Kd.R_drew)); exact HO_15.out) (Kd.R_base ho0) hb); have n3_ := Aside0.mk (Kd.R_elder' (by (with_reducible repeat (first | apply Kd.R_alloc | apply Kd.R_drewN | apply Kd.R_drew)); exact HO_22.out) (Kd.R_base ho0) hb); have n4_ := Aside0.mk (Kd.R_lower (Kd.R_new' (Kd.R_new' (Kd.R_new' (Kd.R_new' ho0 (Kd.R_lt (by (with_reducible repeat (first | apply Kd.R_alloc | apply Kd.R_drewN | apply Kd.R_drew)); exact HO_3.out))) (Kd.R_lt (by (with_reducible repeat (first | apply Kd.R_alloc | apply Kd.R_drewN | apply Kd.R_drew)); exact HO_4.out))) (Kd.R_lt (by (with_reducible repeat (first | apply Kd.R_alloc | apply Kd.R_drewN | apply Kd.R_drew)); exact HO_15.out))) (Kd.R_lt (by (with_reducible repeat (first | apply Kd.R_alloc | apply Kd.R_drewN | apply Kd.R_drew)); exact HO_22.out))) (below_size (by repeat (first | (with_reducible first | exact HB.out | apply below_alloc | apply pw_below_drewN | apply below_drew1) | exact HB.out)))); have n5_ := Aside0.mk (below_step (by repeat (first | (with_reducible first | exact HB.out | apply below_alloc | apply pw_below_drewN | apply below_drew1) | exact HB.out)) hb); clear HO_3; clear HO_4; clear HO_15; clear HO_22; clear HB; have HO_3 := n0_; have HO_4 := n1_; have HO_15 := n2_; have HO_22 := n3_; have HO1171017 := n4_; have HB := n5_; clear n0_ n1_ n2_ n3_ n4_ n5_; (try clear hb); (try clear hb2); (try clear hk); (try clear hi); (try clear ho0)))
           go_roundg k2
           case measure => have := HK1.out; have := HK2.out; omega
           case rel => exact ⟨(x3_2), (t1171015), (wrap64 (x17_1 + 1)), (by first | rfl | (simp; done) | (simp [*]; done)), H', ⟨by have := HK1.out; have := HK2.out; omega⟩, ⟨by (with_reducible repeat (first | apply Kd.R_alloc | apply Kd.R_drewN | apply Kd.R_drew)); exact Kd.R_mono HO_3.out (fun _ hk => ⟨hk.2, hk.1.2.1⟩)⟩, ⟨by (with_reducible repeat (first | apply Kd.R_alloc | apply Kd.R_drewN | apply Kd.R_drew)); exact Kd.R_mono HO1171017.out (fun _ hk => ⟨hk.1.1.1.2, hk.1.2⟩)⟩, ⟨by (with_reducible repeat (first | apply Kd.R_alloc | apply Kd.R_drewN | apply Kd.R_drew)); exact Kd.R_mono HO_15.out (fun _ hk => ⟨hk.1.1, hk.2⟩)⟩, ⟨by repeat (first | (with_reducible first | exact HB.out | apply below_alloc | apply pw_below_drewN | apply below_drew1) | exact HB.out)⟩⟩
       ·rw [if_neg c15] at H
        exact absurd H (by simp)
      ·rw [if_neg c14] at H
       exact absurd H (by simp)
     ·rw [if_neg c13] at H
      have c13b0 : decide (x17_1 < (t1171008.length : Int)) = false := decide_eq_false c13
      clear c13
      obtain rfl := Option.some.inj H
      go_wp2
      go_ret
      exact ⟨_, by first | rfl | (simp [errW_none, errW_some] <;> rfl) | (simp only [← hji3]; first | rfl | (simp [errW_none, errW_some] <;> rfl)) | (simp [*, errW_none, errW_some] <;> rfl), by (with_reducible repeat (first | apply Kd.R_alloc | apply Kd.R_drewN | apply Kd.R_drew)); exact Kd.R_mono HO_3.out (fun _ hk => trivial), by repeat (first | (with_reducible first | exact HB.out | apply below_alloc | apply pw_below_drewN | apply below_drew1) | exact HB.out)⟩
  ·rw [if_neg c5] at H
   exact absurd H (by simp)
 ·rw [if_neg c4] at H
  exact absurd H (by simp)
end Go.Proofs.Ytnlhhbnoccobmaa.F
end
section
namespace Go.Proofs.Ytnlhhbnoccobmaa.Pure
open Go.RowKit Go.Proofs.Ytnlhhbnoccobmaa.F Go.Proofs.Ytnlhhbnoccobmaa.Mem Go.Proofs.Ytnlhhbnoccobmaa.Chrom Go.Proofs.YtnlhhbnoccobmaaW.PrintWords Go.Proofs.YtnlhhbnoccobmaaW.PrintLast
set_option linter.unusedVariables false
set_option linter.unusedSimpArgs false
theorem cross_symC {w : List Int} (hw : Word w) {i k : Nat} (hi : i < w.length / 2) (hk : k < w.length / 2) : crossB w i k = crossB w k i := by
  by_cases e : i = k
  · rw [e]
  · have hp := places_ne hw e hi hk
    have li := places_lt (hw.count hi)
    have lk := places_lt (hw.count hk)
    unfold crossB
    rw [show (i == k) = false from by simpa using e, show (k == i) = false from by simpa using Ne.symm e]
    by_cases c1 : pA w i < pA w k <;> by_cases c2 : pA w k < pB w i <;> by_cases c3 : pA w i < pB w k <;> by_cases c4 : pB w k < pB w i <;>
      simp only [c1, c2, c3, c4, show (pA w k < pA w i) = ¬ (pA w i < pA w k) from by rw [eq_iff_iff]; omega, show (pB w i < pA w k) = ¬ (pA w k < pB w i) from by rw [eq_iff_iff]; omega, show (pB w k < pA w i) = ¬ (pA w i < pB w k) from by rw [eq_iff_iff]; omega, show (pB w i < pB w k) = ¬ (pB w k < pB w i) from by rw [eq_iff_iff]; omega, decide_true, decide_false, not_true_eq_false, not_false_eq_true, Bool.true_and, Bool.false_and, Bool.and_true, Bool.and_false, bne_self_eq_false, Bool.not_false] <;> first | rfl | decide | (exfalso; omega)
theorem classV_eq (w : List Int) (hw : Word w) : classV w = clsOf (crossB w) (w.length / 2) ∧ Few 117649 (classV w) := by
  have hle := hw.le
  have h := clsP_of (fun i a => crossB w a i) (w.length / 2) (by omega)
  have e := clsOf_congr (X := fun i a => crossB w a i) (Y := crossB w) (w.length / 2) (fun i a hi ha => cross_symC hw ha hi)
  unfold classV
  rw [h.1]
  exact ⟨e, h.2⟩
end Go.Proofs.Ytnlhhbnoccobmaa.Pure
end
section
namespace Go.Proofs.Ytnlhhbnoccobmaa.Pure
open Go.RowKit Go.Proofs.Ytnlhhbnoccobmaa.F Go.Proofs.Ytnlhhbnoccobmaa.Mem Go.Proofs.Ytnlhhbnoccobmaa.Chrom Go.Proofs.YtnlhhbnoccobmaaW.PrintWords Go.Proofs.YtnlhhbnoccobmaaW.PrintLast
set_option linter.unusedVariables false
set_option linter.unusedSimpArgs false
def Lo (M : Int) (l : List Int) : Prop := ∀ i, -M ≤ l.getD i 0 ∧ l.getD i 0 ≤ M
theorem Lo.le {M N : Int} {l : List Int} (h : Lo M l) (hMN : M ≤ N) : Lo N l := fun i => by have := h i; omega
theorem Lo.set {M : Int} {l : List Int} (h : Lo M l) (j : Nat) (v : Int) (hv : -M ≤ v ∧ v ≤ M) : Lo M (l.set j v) := fun i => by
  have hi := h i
  by_cases hl : i < l.length
  · rw [Chrom.getD_set _ _ _ _ _ hl]
    split
    · exact hv
    · exact hi
  · rw [List.getD_eq_getElem?_getD, List.getElem?_eq_none (by rw [List.length_set]; omega)]
    rw [List.getD_eq_getElem?_getD, List.getElem?_eq_none (by omega)] at hi
    exact hi
theorem lo_zeros (M : Int) (hM : 0 ≤ M) (n : Nat) : Lo M (List.replicate n 0) := fun i => by
  rw [List.getD_eq_getElem?_getD, List.getElem?_replicate]
  split <;> simp <;> omega
theorem pv_take (x : Int) (f : List Int) (i : Nat) (h : i < f.length) : pv x (f.take (i + 1)) = pv x (f.take i) + f.getD i 0 * x ^ i := by
  have key : ∀ (f : List Int) (i : Nat), i < f.length → pv x (f.take (i + 1)) = pv x (f.take i) + f.getD i 0 * x ^ i := by
    intro f
    induction f with
    | nil => intro i h; simp at h
    | cons a f ih =>
      intro i h
      cases i with
      | zero => simp [pv]
      | succ i =>
        rw [List.take_succ_cons, pv, List.take_succ_cons, pv, ih i (by simpa using h), List.getD_cons_succ, Int.mul_add, Int.pow_succ]
        have : x * (f.getD i 0 * x ^ i) = f.getD i 0 * (x ^ i * x) := by rw [← Int.mul_assoc, Int.mul_comm x, Int.mul_assoc, Int.mul_comm x]
        omega
  exact key f i h
theorem mul_bound {a b A B : Int} (ha : -A ≤ a ∧ a ≤ A) (hb : 0 ≤ b ∧ b ≤ B) (hA : 0 ≤ A) : -(A * B) ≤ b * a ∧ b * a ≤ A * B := by
  have h1 : b * a ≤ b * A := Int.mul_le_mul_of_nonneg_left ha.2 hb.1
  have h2 : b * A ≤ B * A := Int.mul_le_mul_of_nonneg_right hb.2 hA
  have h3 : b * (-A) ≤ b * a := Int.mul_le_mul_of_nonneg_left ha.1 hb.1
  have h4 : b * (-A) = -(b * A) := Int.mul_neg ..
  have h5 : B * A = A * B := Int.mul_comm ..
  omega
theorem times_ev (f : List Int) (c : Int) (hc : 0 ≤ c ∧ c ≤ 6) (M : Int) (hM0 : 0 ≤ M) (hM : M ≤ 1000000000) (hf : Lo M f) (hl : f.length ≤ 20) :
    ∃ r, Ev (fun k => impl_times.f k f c) r ∧ r.length = f.length + 1 ∧ (∀ x : Int, pv x r = (x - c) * pv x f) ∧ Lo (7 * M) r := by
  have key : ∀ d i (out : List Int), i + d = f.length → out.length = f.length + 1 → (∀ x : Int, pv x out = (x - c) * pv x (f.take i)) → (∀ j, j < i → -(7 * M) ≤ out.getD j 0 ∧ out.getD j 0 ≤ 7 * M) → (-M ≤ out.getD i 0 ∧ out.getD i 0 ≤ M) → (∀ j, i < j → out.getD j 0 = 0) →
      ∃ r, Ev (fun k => impl_times.l0 k c out f (f.length : Int) (i : Int)) r ∧ r.length = f.length + 1 ∧ (∀ x : Int, pv x r = (x - c) * pv x f) ∧ Lo (7 * M) r := by
    intro d
    induction d with
    | zero =>
      intro i out hi ho hp h1 h2 h3
      refine ⟨out, ?_, ho, fun x => ?_, fun j => ?_⟩
      · refine Ev_succ ?_
        simp only [impl_times.l0]
        exact Ev.congr (fun k => if_neg (by omega)) (Ev.now _)
      · rw [hp x, show f.take i = f from List.take_of_length_le (by omega)]
      · rcases Nat.lt_trichotomy j i with h | h | h
        · exact h1 j h
        · subst h; omega
        · rw [h3 j h]; omega
    | succ d ih =>
      intro i out hi ho hp h1 h2 h3
      have hil : i < f.length := by omega
      have hfi := hf i
      obtain ⟨a, ha⟩ : ∃ a, a = f.getD i 0 := ⟨_, rfl⟩
      rw [← ha] at hfi
      have hca := mul_bound hfi hc hM0
      obtain ⟨p, hpv⟩ : ∃ p, p = c * a := ⟨_, rfl⟩
      rw [← hpv] at hca
      have e1 : (out.set (i + 1) (out.getD (i + 1) 0 + a)).getD i 0 = out.getD i 0 := by
        rw [Chrom.getD_set _ _ _ _ _ (by omega), if_neg (by omega)]
      obtain ⟨r, hr, hrest⟩ := ih (i + 1) ((out.set (i + 1) (out.getD (i + 1) 0 + a)).set i ((out.set (i + 1) (out.getD (i + 1) 0 + a)).getD i 0 + (-p))) (by omega) (by rw [List.length_set, List.length_set]; exact ho) (fun x => by
        rw [pv_set x _ i _ (by rw [List.length_set]; omega), pv_set x out (i + 1) a (by omega), hp x, pv_take x f i hil, ← ha, Int.mul_add, Int.pow_succ, hpv]
        rw [Int.sub_mul x c (a * x ^ i)]
        have h4 : x * (a * x ^ i) = a * (x ^ i * x) := by rw [← Int.mul_assoc, Int.mul_comm x, Int.mul_assoc, Int.mul_comm x]
        have h5 : -(c * a) * x ^ i = -(c * (a * x ^ i)) := by rw [Int.neg_mul, Int.mul_assoc]
        omega) (fun j hj => by
        rw [Chrom.getD_set _ _ _ _ _ (by rw [List.length_set]; omega)]
        by_cases e : j = i
        · rw [if_pos e, e1]; omega
        · rw [if_neg e, Chrom.getD_set _ _ _ _ _ (by omega), if_neg (by omega)]
          exact h1 j (by omega)) (by
        rw [Chrom.getD_set _ _ _ _ _ (by rw [List.length_set]; omega), if_neg (by omega), Chrom.getD_set _ _ _ _ _ (by omega), if_pos rfl, h3 (i + 1) (by omega)]
        omega) (fun j hj => by
        by_cases hjl : j < out.length
        · rw [Chrom.getD_set _ _ _ _ _ (by rw [List.length_set]; omega), if_neg (by omega), Chrom.getD_set _ _ _ _ _ hjl, if_neg (by omega), h3 j (by omega)]
        · rw [List.getD_eq_getElem?_getD, List.getElem?_eq_none (by rw [List.length_set, List.length_set]; omega)]; rfl)
      refine ⟨r, ?_, hrest⟩
      have h3i := h3 (i + 1) (by omega)
      refine Ev_succ ?_
      simp only [impl_times.l0]
      refine Ev.congr (fun k => if_pos (by omega)) (Ev.congr (fun k => if_pos (by omega)) (Ev.congr (fun k => if_pos (by omega)) ?_))
      rw [wS (n := i) (by omega)]
      refine Ev.congr (fun k => if_pos (by omega)) (Ev.congr (fun k => if_pos (by omega)) ?_)
      rw [Int.toNat_natCast, rdN, rdN, ← ha, show wrap64 (out.getD (i + 1) 0 + a) = out.getD (i + 1) 0 + a from by unfold wrap64; omega]
      refine Ev.congr (fun k => Option.bind_some _ _) (Ev.congr (fun k => if_pos (by omega)) ?_)
      rw [Int.toNat_natCast, rdN, e1, ← hpv, show wrap64 p = p from by unfold wrap64; omega, show wrap64 (out.getD i 0 - p) = out.getD i 0 + -p from by unfold wrap64; omega]
      rw [e1] at hr
      exact hr
  have h0 := key f.length 0 (List.replicate (f.length + 1) 0) (by omega) (by simp) (fun x => by rw [pv_replicate, List.take_zero, pv, Int.mul_zero]) (fun j hj => absurd hj (Nat.not_lt_zero _)) (lo_zeros M hM0 _ 0) (fun j _ => by
    have h1 := lo_zeros 0 (Int.le_refl _) (f.length + 1) j
    omega)
  obtain ⟨r, hr, hrest⟩ := h0
  refine ⟨r, ?_, hrest⟩
  unfold impl_times.f
  rw [wS (by omega)]
  refine Ev.congr (fun k => if_pos (by omega)) (Ev.congr (fun k => if_pos (by omega)) ?_)
  rw [Int.toNat_natCast]
  exact hr
theorem addIn_ev (g out0 : List Int) (many : Int) (hm : 0 ≤ many ∧ many ≤ 117649) (hg : Lo 823543 g) (B : Int) (hB0 : 0 ≤ B) (hB : B ≤ 900000000000) (ho : Lo B out0) (hl : g.length ≤ out0.length) (hl2 : out0.length ≤ 20)
    (cl : List Int) (i : Nat) (Q : List Int → Prop)
    (hnext : ∀ out1 : List Int, out1.length = out0.length → (∀ x : Int, pv x out1 = pv x out0 + many * pv x g) → Lo (B + 100000000000) out1 → ∃ r, Ev (fun k => (impl_times.f k g (i : Int)).bind fun t => impl_colouring.l0 k out1 t cl (cl.length : Int) (wrap64 ((i : Int) + 1))) r ∧ Q r) :
    ∃ r, Ev (fun k => impl_colouring.l1 k out0 g (i : Int) many cl (cl.length : Int) (i : Int) g (g.length : Int) 0) r ∧ Q r := by
  have key : ∀ d j (out : List Int), j + d = g.length → out.length = out0.length → (∀ x : Int, pv x out = pv x out0 + many * pv x (g.take j)) → Lo (B + 100000000000) out → (∀ q, j ≤ q → -B ≤ out.getD q 0 ∧ out.getD q 0 ≤ B) →
      ∃ r, Ev (fun k => impl_colouring.l1 k out g (i : Int) many cl (cl.length : Int) (i : Int) g (g.length : Int) (j : Int)) r ∧ Q r := by
    intro d
    induction d with
    | zero =>
      intro j out hj ho1 hp hlo _
      obtain ⟨r, hr, hq⟩ := hnext out ho1 (fun x => by rw [hp x, show g.take j = g from List.take_of_length_le (by omega)]) hlo
      refine ⟨r, ?_, hq⟩
      refine Ev_succ ?_
      simp only [impl_colouring.l1]
      exact Ev.congr (fun k => if_neg (by omega)) hr
    | succ d ih =>
      intro j out hj ho1 hp hlo hrest
      have hjg : j < g.length := by omega
      obtain ⟨a, ha⟩ : ∃ a, a = g.getD j 0 := ⟨_, rfl⟩
      have hga := hg j
      rw [← ha] at hga
      have hma := mul_bound hga hm (by omega)
      obtain ⟨p, hpp⟩ : ∃ p, p = many * a := ⟨_, rfl⟩
      rw [← hpp] at hma
      have hq := hrest j (Nat.le_refl _)
      obtain ⟨r, hr, hQ⟩ := ih (j + 1) (out.set j (out.getD j 0 + p)) (by omega) (by rw [List.length_set]; exact ho1) (fun x => by
        rw [pv_set x out j p (by omega), hp x, pv_take x g j hjg, ← ha, Int.mul_add, hpp, Int.mul_assoc]; omega) (hlo.set j _ (by omega)) (fun q hqj => by
        by_cases hql : q < out.length
        · rw [Chrom.getD_set _ _ _ _ _ hql, if_neg (by omega)]; exact hrest q (by omega)
        · rw [List.getD_eq_getElem?_getD, List.getElem?_eq_none (by rw [List.length_set]; omega)]
          show -B ≤ 0 ∧ 0 ≤ B
          omega)
      refine ⟨r, ?_, hQ⟩
      refine Ev_succ ?_
      simp only [impl_colouring.l1]
      refine Ev.congr (fun k => if_pos (by omega)) (Ev.congr (fun k => if_pos (by omega)) (Ev.congr (fun k => if_pos (by omega)) (Ev.congr (fun k => if_pos (by omega)) ?_)))
      rw [Int.toNat_natCast, rdN, rdN, ← ha, ← hpp, show wrap64 p = p from by unfold wrap64; omega, show wrap64 (out.getD j 0 + p) = out.getD j 0 + p from by unfold wrap64; omega, wS (n := j) (by omega)]
      exact hr
  exact key g.length 0 out0 (by omega) rfl (fun x => by rw [List.take_zero, pv, Int.mul_zero, Int.add_zero]) (ho.le (by omega)) (fun q _ => ho q)
theorem seven_le {i : Nat} (hi : i ≤ 7) : (7 : Int) ^ i ≤ 823543 := by
  have h : 7 ^ i ≤ 823543 := Nat.le_trans (Nat.pow_le_pow_right (n := 7) (by decide) hi) (by decide)
  have e : ((7 ^ i : Nat) : Int) = (7 : Int) ^ i := by rw [Int.natCast_pow]; rfl
  omega
theorem colouring_ev (w : List Int) (hw : Word w) (hW : isW w = true) : ∃ r, Ev (fun k => impl_colouring.f k w) r ∧ r.length = w.length / 2 + 1 ∧ (∀ x : Int, pv x r = Chrom.ev x (clsOf (crossB w) (w.length / 2))) ∧ r.length ≤ 20 := by
  have hle := hw.le
  obtain ⟨n, hn⟩ : ∃ n, n = w.length / 2 := ⟨_, rfl⟩
  have hn6 : n ≤ 6 := by omega
  have hc := classV_eq w hw
  obtain ⟨cl, hcl⟩ : ∃ cl, cl = classV w := ⟨_, rfl⟩
  rw [← hcl, ← hn] at hc
  have hcll : cl.length = n + 1 := by rw [hc.1, clsOf_len]
  rw [← hn, ← hc.1]
  have key : ∀ d i (out g : List Int), i + d = n + 1 → out.length = n + 1 → (∀ x : Int, pv x out = sumR (fun j => cl.getD j 0 * fall x j) i) → Lo ((i : Int) * 100000000000) out → g.length = i + 1 → (∀ x : Int, pv x g = fall x i) → Lo ((7 : Int) ^ i) g →
      ∃ r, Ev (fun k => impl_colouring.l0 k out g cl (cl.length : Int) (i : Int)) r ∧ (r.length = n + 1 ∧ ∀ x : Int, pv x r = sumR (fun j => cl.getD j 0 * fall x j) (n + 1)) := by
    intro d
    induction d with
    | zero =>
      intro i out g hi ho hp hlo hg hpg hlg
      refine ⟨out, ?_, ho, fun x => by rw [hp x, show i = n + 1 from by omega]⟩
      refine Ev_succ ?_
      simp only [impl_colouring.l0]
      exact Ev.congr (fun k => if_neg (by omega)) (Ev.now _)
    | succ d ih =>
      intro i out g hi ho hp hlo hg hpg hlg
      have h7 := seven_le (i := i) (by omega)
      have h70 : (0 : Int) ≤ (7 : Int) ^ i := Int.le_of_lt (Int.pow_pos (by decide))
      have hmany := hc.2 i
      obtain ⟨r, hr, hq⟩ := addIn_ev g out (cl.getD i 0) hmany (hlg.le h7) ((i : Int) * 100000000000) (by omega) (by omega) hlo (by omega) (by omega) cl i (fun r => r.length = n + 1 ∧ ∀ x : Int, pv x r = sumR (fun j => cl.getD j 0 * fall x j) (n + 1)) (fun out1 ho1 hp1 hlo1 => by
        obtain ⟨t, ht, htl, htp, htlo⟩ := times_ev g (i : Int) (by omega) ((7 : Int) ^ i) h70 (by omega) hlg (by omega)
        obtain ⟨r, hr, hq⟩ := ih (i + 1) out1 t (by omega) (by omega) (fun x => by rw [hp1 x, hp x, sumR, hpg x]) (by
          have e : (((i + 1 : Nat) : Int)) * 100000000000 = (i : Int) * 100000000000 + 100000000000 := by omega
          rw [e]; exact hlo1) (by omega) (fun x => by rw [htp x, hpg x, fall, Int.mul_comm]) (by
          rw [Int.pow_succ, Int.mul_comm]; exact htlo)
        refine ⟨r, ?_, hq⟩
        refine Ev.bind ht ?_
        rw [wS (n := i) (by omega)]
        exact hr)
      refine ⟨r, ?_, hq⟩
      refine Ev_succ ?_
      simp only [impl_colouring.l0]
      refine Ev.congr (fun k => if_pos (by omega)) (Ev.congr (fun k => if_pos (by omega)) (Ev.congr (fun k => if_pos (by omega)) ?_))
      rw [rdN]
      exact hr
  obtain ⟨r, hr, hl, hp⟩ := key (n + 1) 0 (List.replicate (n + 1) 0) [1] (by omega) (by simp) (fun x => by rw [pv_replicate]; rfl) (lo_zeros _ (by omega) _) rfl (fun x => by simp [pv, fall]) (fun i => by
    cases i with
    | zero => simp
    | succ i => simp)
  refine ⟨r, ?_, hl, fun x => by rw [hp x]; unfold Chrom.ev; rw [hcll], by omega⟩
  unfold impl_colouring.f
  rw [chords_f w hle, ← hn]
  refine Ev.congr (fun k => Option.bind_some _ _) ?_
  rw [wS (n := n) (by omega)]
  refine Ev.congr (fun k => if_pos (by omega)) (Ev.congr (fun k => if_pos (by omega)) ?_)
  unfold impl_classes.f
  rw [if_pos hW, ← hcl]
  refine Ev.congr (fun k => Option.bind_some _ _) ?_
  rw [Int.toNat_natCast]
  exact hr
end Go.Proofs.Ytnlhhbnoccobmaa.Pure
end
section
namespace Go.Proofs.Ytnlhhbnoccobmaa.Chrom
def lblOf : List (Nat × Nat) → Nat → (Nat → Nat) → (Nat → Nat)
  | [], _, r => r
  | e :: E, s, r => lblOf E (s / 2) (if s % 2 = 1 then merge r e else r)
def sgnOf : List (Nat × Nat) → Nat → Int
  | [], _ => 1
  | _ :: E, s => (if s % 2 = 1 then -1 else 1) * sgnOf E (s / 2)
theorem sumR_two (f : Nat → Int) : ∀ m, sumR f (2 * m) = sumR (fun s => f (2 * s) + f (2 * s + 1)) m
  | 0 => rfl
  | m + 1 => by
    rw [show 2 * (m + 1) = 2 * m + 1 + 1 from by omega, sumR, sumR, sumR_two f m, sumR]; omega
theorem subs_sum (n : Nat) (x : Int) : ∀ (E : List (Nat × Nat)) (r : Nat → Nat), sumR (fun s => sgnOf E s * x ^ roots (lblOf E s r) 0 n) (2 ^ E.length) = subs n x E r
  | [], r => by simp [sumR, sgnOf, lblOf, subs]
  | e :: E, r => by
    rw [List.length_cons, Nat.pow_succ, Nat.mul_comm, sumR_two, subs, ← subs_sum n x E r, ← subs_sum n x E (merge r e)]
    have h : ∀ s, (sgnOf (e :: E) (2 * s) * x ^ roots (lblOf (e :: E) (2 * s) r) 0 n + sgnOf (e :: E) (2 * s + 1) * x ^ roots (lblOf (e :: E) (2 * s + 1) r) 0 n) = sgnOf E s * x ^ roots (lblOf E s r) 0 n - sgnOf E s * x ^ roots (lblOf E s (merge r e)) 0 n := by
      intro s
      rw [sgnOf, sgnOf, lblOf, lblOf, show 2 * s % 2 = 0 from by omega, show 2 * s / 2 = s from by omega, show (2 * s + 1) % 2 = 1 from by omega, show (2 * s + 1) / 2 = s from by omega]
      rw [if_neg (by decide), if_neg (by decide), if_pos rfl, if_pos rfl, Int.one_mul, Int.mul_assoc]
      omega
    rw [sumR_congr _ (g := fun s => sgnOf E s * x ^ roots (lblOf E s r) 0 n - sgnOf E s * x ^ roots (lblOf E s (merge r e)) 0 n) (fun s _ => h s), sumR_sub]
theorem sgn_is : ∀ (E : List (Nat × Nat)) (s : Nat), sgnOf E s = 1 ∨ sgnOf E s = -1
  | [], _ => .inl rfl
  | e :: E, s => by
    rw [sgnOf]
    rcases sgn_is E (s / 2) with h | h <;> rw [h] <;> split <;> simp
theorem Lab.lblOf : ∀ (E : List (Nat × Nat)) (s : Nat) {r : Nat → Nat}, Lab r → Lab (Chrom.lblOf E s r)
  | [], _, _, h => h
  | e :: E, s, r, h => by
    rw [Chrom.lblOf]
    refine Lab.lblOf E (s / 2) ?_
    split
    · exact h.merge e
    · exact h
def sel : List (Nat × Nat) → Nat → List (Nat × Nat)
  | [], _ => []
  | e :: E, s => if s % 2 = 1 then e :: sel E (s / 2) else sel E (s / 2)
theorem lbl_sel : ∀ (E : List (Nat × Nat)) (s : Nat) (r : Nat → Nat), lblOf E s r = (sel E s).foldl merge r
  | [], _, _ => rfl
  | e :: E, s, r => by
    rw [lblOf, sel]
    split
    · rw [List.foldl_cons]; exact lbl_sel E _ _
    · exact lbl_sel E _ _
theorem merge_keep {r : Nat → Nat} {e : Nat × Nat} {u v : Nat} (h : r u = r v) : merge r e u = merge r e v := by unfold merge; rw [h]
theorem merge_one (r : Nat → Nat) (e : Nat × Nat) : merge r e e.1 = merge r e e.2 := by
  unfold merge
  by_cases h1 : r e.1 = max (r e.1) (r e.2) <;> by_cases h2 : r e.2 = max (r e.1) (r e.2)
  · rw [if_pos h1, if_pos h2]
  · rw [if_pos h1, if_neg h2]; omega
  · rw [if_neg h1, if_pos h2]; omega
  · omega
theorem fold_keep : ∀ (L : List (Nat × Nat)) {r : Nat → Nat} {u v : Nat}, r u = r v → L.foldl merge r u = L.foldl merge r v
  | [], _, _, _, h => h
  | e :: L, r, u, v, h => by rw [List.foldl_cons]; exact fold_keep L (merge_keep h)
theorem fold_one : ∀ (L : List (Nat × Nat)) (r : Nat → Nat) (e : Nat × Nat), e ∈ L → L.foldl merge r e.1 = L.foldl merge r e.2
  | [], _, _, h => absurd h (by simp)
  | a :: L, r, e, h => by
    rw [List.foldl_cons]
    rcases List.mem_cons.1 h with g | g
    · subst g; exact fold_keep L (merge_one r e)
    · exact fold_one L _ e g
theorem merge_two {r : Nat → Nat} {e : Nat × Nat} {S : Nat → Bool} (hS : ∀ u v, r u = r v → S u = S v) (he : S e.1 = S e.2) : ∀ u v, merge r e u = merge r e v → S u = S v := by
  intro u v h
  unfold merge at h
  have key : ∀ u v, r u = max (r e.1) (r e.2) → r v = min (r e.1) (r e.2) → S u = S v := by
    intro u v hu hv
    rcases Nat.le_total (r e.1) (r e.2) with g | g
    · rw [hS u e.2 (by omega), hS v e.1 (by omega)]; exact he.symm
    · rw [hS u e.1 (by omega), hS v e.2 (by omega)]; exact he
  by_cases h1 : r u = max (r e.1) (r e.2) <;> by_cases h2 : r v = max (r e.1) (r e.2)
  · exact hS u v (by omega)
  · rw [if_pos h1, if_neg h2] at h; exact key u v h1 h.symm
  · rw [if_neg h1, if_pos h2] at h; exact (key v u h2 h).symm
  · rw [if_neg h1, if_neg h2] at h; exact hS u v h
theorem fold_two {S : Nat → Bool} : ∀ (L : List (Nat × Nat)) (r : Nat → Nat), (∀ u v, r u = r v → S u = S v) → (∀ e ∈ L, S e.1 = S e.2) → ∀ u v, L.foldl merge r u = L.foldl merge r v → S u = S v
  | [], _, hS, _ => hS
  | e :: L, r, hS, hL => by
    rw [List.foldl_cons]
    exact fold_two L _ (merge_two hS (hL e List.mem_cons_self)) (fun a ha => hL a (List.mem_cons_of_mem _ ha))
end Go.Proofs.Ytnlhhbnoccobmaa.Chrom
namespace Go.Proofs.Ytnlhhbnoccobmaa.Pure
open Go.RowKit Go.Proofs.Ytnlhhbnoccobmaa.F Go.Proofs.Ytnlhhbnoccobmaa.Mem Go.Proofs.Ytnlhhbnoccobmaa.Chrom Go.Proofs.YtnlhhbnoccobmaaW.PrintWords Go.Proofs.YtnlhhbnoccobmaaW.PrintLast
set_option linter.unusedVariables false
set_option linter.unusedSimpArgs false
theorem roots_le (r : Nat → Nat) : ∀ d m, roots r m d ≤ d
  | 0, m => Nat.le_refl _
  | d + 1, m => by
    rw [roots]
    have := roots_le r d (m + 1)
    split <;> omega
theorem pairs_len (X : Nat → Nat → Bool) (n : Nat) (hn : n ≤ 6) : (pairsOf X n).length ≤ 36 := by
  unfold pairsOf
  have key : ∀ l : List Nat, (∀ i ∈ l, i ≤ 6) → (l.flatMap fun i => ((List.range i).filter fun k => X i k).map fun k => (i, k)).length ≤ l.length * 6 := by
    intro l
    induction l with
    | nil => intro _; simp
    | cons a l ih =>
      intro h
      have h1 := ih (fun x hx => h x (List.mem_cons_of_mem _ hx))
      have h2 := h a List.mem_cons_self
      have h3 : ((List.range a).filter fun k => X a k).length ≤ a := by have := List.length_filter_le (fun k => X a k) (List.range a); rw [List.length_range] at this; exact this
      rw [List.flatMap_cons, List.length_append, List.length_map, List.length_cons, Nat.succ_mul]
      omega
  have := key (List.range n) (fun i hi => by have := List.mem_range.1 hi; omega)
  rw [List.length_range] at this
  omega
def qOf (w : List Int) (s : Nat) : Nat := roots (lblOf (pairsOf (crossB w) (w.length / 2)) s id) 0 (w.length / 2)
def sOf (w : List Int) (s : Nat) : Int := sgnOf (pairsOf (crossB w) (w.length / 2)) s
def polyTo (w : List Int) : Nat → List Int
  | 0 => List.replicate (w.length / 2 + 1) 0
  | m + 1 => (polyTo w m).set (qOf w m) (wrap64 ((polyTo w m).getD (qOf w m) 0 + sOf w m))
def polyV (w : List Int) : List Int := polyTo w (2 ^ (pairsOf (crossB w) (w.length / 2)).length)
theorem polyTo_len (w : List Int) : ∀ m, (polyTo w m).length = w.length / 2 + 1
  | 0 => by simp [polyTo]
  | m + 1 => by rw [polyTo, List.length_set]; exact polyTo_len w m
theorem polyTo_pv (w : List Int) (hw : Word w) : ∀ m : Nat, m ≤ 68719476736 → Lo (m : Int) (polyTo w m) ∧ ∀ x : Int, pv x (polyTo w m) = sumR (fun s => sOf w s * x ^ qOf w s) m
  | 0, _ => ⟨lo_zeros _ (by omega) _, fun x => by rw [polyTo, pv_replicate]; rfl⟩
  | m + 1, hm => by
    have ih := polyTo_pv w hw m (by omega)
    have hl := polyTo_len w m
    have hq : qOf w m ≤ w.length / 2 := roots_le _ _ _
    have hg := ih.1 (qOf w m)
    have hs := sgn_is (pairsOf (crossB w) (w.length / 2)) m
    have hs' : sOf w m = 1 ∨ sOf w m = -1 := hs
    have hb : -((m + 1 : Nat) : Int) ≤ (polyTo w m).getD (qOf w m) 0 + sOf w m ∧ (polyTo w m).getD (qOf w m) 0 + sOf w m ≤ ((m + 1 : Nat) : Int) := by
      rcases hs' with h | h <;> rw [h] <;> omega
    have he : wrap64 ((polyTo w m).getD (qOf w m) 0 + sOf w m) = (polyTo w m).getD (qOf w m) 0 + sOf w m := by unfold wrap64; omega
    rw [polyTo, he]
    refine ⟨(ih.1.le (by omega)).set _ _ hb, fun x => ?_⟩
    rw [pv_set x _ _ _ (by omega), ih.2 x, sumR]
theorem polyV_pv (w : List Int) (hw : Word w) (x : Int) : pv x (polyV w) = subs (w.length / 2) x (pairsOf (crossB w) (w.length / 2)) id := by
  have hle := hw.le
  have hp := pairs_len (crossB w) (w.length / 2) (by omega)
  have h36 : 2 ^ (pairsOf (crossB w) (w.length / 2)).length ≤ 68719476736 := Nat.le_trans (Nat.pow_le_pow_right (n := 2) (by decide) hp) (by decide)
  unfold polyV
  rw [(polyTo_pv w hw _ h36).2 x, ← subs_sum]
  rfl
theorem colour_poly (w : List Int) (hw : Word w) (hW : isW w = true) : Ev (fun k => impl_colouring.f k w) (polyV w) := by
  obtain ⟨r, hr, hl, hp, _⟩ := colouring_ev w hw hW
  have e : r = polyV w := pv_inj r (polyV w) (by rw [hl]; exact (polyTo_len w _).symm) (fun k _ => by
    rw [hp, polyV_pv w hw]
    exact clsOf_subs (crossB w) (w.length / 2) k)
  rw [← e]; exact hr
theorem polyV_le (w : List Int) (h : isW w = true) : (polyV w).length ≤ 1048576 := by
  have hle := ((isW_iff w).1 h).le
  have := polyTo_len w (2 ^ (pairsOf (crossB w) (w.length / 2)).length)
  unfold polyV
  omega
end Go.Proofs.Ytnlhhbnoccobmaa.Pure
end
section
namespace Go.Proofs.Ytnlhhbnoccobmaa.Pure
open Go.RowKit Go.Proofs.Ytnlhhbnoccobmaa.F Go.Proofs.YtnlhhbnoccobmaaW.PrintWords Go.Proofs.YtnlhhbnoccobmaaW.PrintLast
set_option linter.unusedVariables false
set_option linter.unusedSimpArgs false
theorem getD_set {l : List Int} {i j : Nat} {v : Int} (hi : i < l.length) : (l.set i v).getD j 0 = if j = i then v else l.getD j 0 := by
  rw [List.getD_eq_getElem?_getD, List.getElem?_set, List.getD_eq_getElem?_getD]
  by_cases e : i = j
  · subst e; rw [if_pos rfl, if_pos rfl, if_pos hi]; rfl
  · rw [if_neg e, if_neg (fun h => e h.symm)]
def falses (l : List Bool) : Nat := l.count false
theorem falses_set_lt {l : List Bool} {i : Nat} (h : i < l.length) (hf : l.getD i false = false) : falses (l.set i true) < falses l := by
  unfold falses
  have hg : l[i] = false := by rw [List.getD_eq_getElem?_getD, List.getElem?_eq_getElem h] at hf; exact hf
  have hpos : 0 < l.count false := List.count_pos_iff.2 (hg ▸ List.getElem_mem h)
  rw [List.count_set h, hg]
  simp
  omega
end Go.Proofs.Ytnlhhbnoccobmaa.Pure
end
section
namespace Go.Proofs.Ytnlhhbnoccobmaa.Pure
open Go.RowKit Go.Proofs.Ytnlhhbnoccobmaa.F Go.Proofs.Ytnlhhbnoccobmaa.Chrom Go.Proofs.YtnlhhbnoccobmaaW.PrintWords Go.Proofs.YtnlhhbnoccobmaaW.PrintLast
set_option linter.unusedVariables false
set_option linter.unusedSimpArgs false
structure Lbl (n : Nat) (rows : List (List Int)) (r : Nat → Nat) : Prop where
  n6 : n ≤ 6
  len : rows.length = n
  row : ∀ a, a < n → (rows.getD a []).length = n
  lab : Lab r
  one : ∀ a b, a < n → b < n → (rows.getD a []).getD b 0 = 1 → r a = r b
  two : ∀ S : Nat → Bool, (∀ a b, a < n → b < n → (rows.getD a []).getD b 0 = 1 → S a = true → S b = true) → ∀ u v, u < n → v < n → r u = r v → S u = true → S v = true
def bAt (l : List Bool) (i : Nat) : Bool := l.getD i false
theorem bAt_set {l : List Bool} {i j : Nat} {v : Bool} (hi : i < l.length) : bAt (l.set i v) j = if j = i then v else bAt l j := by
  unfold bAt
  rw [List.getD_eq_getElem?_getD, List.getElem?_set]
  by_cases e : i = j
  · rw [if_pos e, if_pos (by omega), if_pos e.symm]; rfl
  · rw [if_neg e, if_neg (Ne.symm e), ← List.getD_eq_getElem?_getD]
structure Pass (n : Nat) (r : Nat → Nat) (i : Nat) (own0 own : List Bool) (more : Bool) : Prop where
  len : own.length = n
  sub : ∀ v, bAt own0 v = true → bAt own v = true
  cls : ∀ v, v < n → bAt own v = true → r v = r i
  no : more = false → own = own0
  yes : more = true → falses own < falses own0
theorem rdRow (rows : List (List Int)) (a : Nat) : rd_L1 rows (a : Int) = rows.getD a [] := by unfold rd_L1; rw [Int.toNat_natCast]
theorem rdB (l : List Bool) (a : Nat) : rdOf false l (a : Int) = bAt l a := by unfold rdOf bAt; rw [Int.toNat_natCast]
theorem parts_l3 {n : Nat} {rows : List (List Int)} {r : Nat → Nat} (h : Lbl n rows r) (i : Nat) (hi : i < n) (met : List Bool) (out : List (List Int)) (own0 : List Bool) (h0 : own0.length = n) (Q : List (List Int) → Prop) (a : Nat) (ha : a < n) (m0 : Bool)
    (hnext : ∀ own more, Pass n r i own0 own more → (m0 = true → more = true) → (more = false → bAt own0 a = true → ∀ b, b < n → (rows.getD a []).getD b 0 = 1 → bAt own0 b = true) → ∃ res, Ev (fun k => spec_l02Parts.l2 k rows met out (i : Int) own more ((a + 1 : Nat) : Int)) res ∧ Q res) :
    ∀ e b own more, b + e = n → Pass n r i own0 own more → (m0 = true → more = true) → (more = false → bAt own0 a = true → ∀ b', b' < b → (rows.getD a []).getD b' 0 = 1 → bAt own0 b' = true) → ∃ res, Ev (fun k => spec_l02Parts.l3 k rows met out (i : Int) own more (a : Int) (b : Int)) res ∧ Q res := by
  have hn6 := h.n6
  have hl := h.len
  intro e
  induction e with
  | zero =>
    intro b own more hb hp hs hc
    obtain ⟨res, hr, hq⟩ := hnext own more hp hs (fun hm ha0 b' hb' he => hc hm ha0 b' (by omega) he)
    refine ⟨res, ?_, hq⟩
    refine Ev_succ ?_
    simp only [spec_l02Parts.l3]
    refine Ev.congr (fun k => if_neg (by omega)) ?_
    refine Ev_succ ?_
    simp only [spec_l02Parts.j4]
    rw [wS (n := a) (by omega)]
    exact Ev.congr (fun k => if_neg (by simp)) hr
  | succ e ih =>
    intro b own more hb hp hs hc
    have hol := hp.len
    have hrl := h.row a ha
    cases hoa : bAt own a with
    | false =>
      obtain ⟨res, hr, hq⟩ := hnext own more hp hs (fun hm ha0 => by rw [hp.no hm] at hoa; rw [hoa] at ha0; exact absurd ha0 (by simp))
      refine ⟨res, ?_, hq⟩
      refine Ev_succ ?_
      simp only [spec_l02Parts.l3]
      refine Ev.congr (fun k => if_pos (by omega)) (Ev.congr (fun k => if_pos (by omega)) (Ev.congr (fun k => if_pos (by omega)) ?_))
      rw [rdB, hoa]
      refine Ev_succ ?_
      simp only [spec_l02Parts.j4]
      rw [wS (n := a) (by omega)]
      exact Ev.congr (fun k => if_neg (by simp)) hr
    | true =>
      have step : ∀ res, Ev (fun k => if (rows.getD a []).getD b 0 = 1 then (if bAt own b = true then spec_l02Parts.l3 k rows met out (i : Int) own more (a : Int) ((b + 1 : Nat) : Int) else spec_l02Parts.l3 k rows met out (i : Int) (own.set b true) true (a : Int) ((b + 1 : Nat) : Int)) else spec_l02Parts.l3 k rows met out (i : Int) own more (a : Int) ((b + 1 : Nat) : Int)) res → Ev (fun k => spec_l02Parts.l3 k rows met out (i : Int) own more (a : Int) (b : Int)) res := by
        intro res hr
        refine Ev_succ ?_
        simp only [spec_l02Parts.l3]
        refine Ev.congr (fun k => if_pos (by omega)) (Ev.congr (fun k => if_pos (by omega)) (Ev.congr (fun k => if_pos (by omega)) ?_))
        rw [rdB, hoa]
        refine Ev_succ ?_
        simp only [spec_l02Parts.j4]
        refine Ev.congr (fun k => if_pos trivial) (Ev.congr (fun k => if_pos (by omega)) (Ev.congr (fun k => if_pos (by omega)) (Ev.congr (fun k => if_pos (by omega)) ?_)))
        rw [rdRow, rdN, rdB, Int.toNat_natCast, wS (n := b) (by omega)]
        refine Ev.congr (fun k => if_pos (by omega)) ?_
        by_cases c : (rows.getD a []).getD b 0 = 1
        · refine Ev.congr (fun k => if_pos c) (Ev.congr (fun k => if_pos (by omega)) ?_)
          exact Ev.congr (fun k => (if_pos c).symm) hr
        · refine Ev.congr (fun k => if_neg c) ?_
          exact Ev.congr (fun k => (if_neg c).symm) hr
      by_cases c : (rows.getD a []).getD b 0 = 1
      · cases hob : bAt own b with
        | true =>
          obtain ⟨res, hr, hq⟩ := ih (b + 1) own more (by omega) hp hs (fun hm ha0 b' hb' he => by
            by_cases g : b' = b
            · rw [g, ← hp.no hm]; exact hob
            · exact hc hm ha0 b' (by omega) he)
          refine ⟨res, step res (Ev.congr (fun k => (if_pos c).trans (if_pos hob)) hr), hq⟩
        | false =>
          have hlt := falses_set_lt (l := own) (i := b) (by omega) hob
          obtain ⟨res, hr, hq⟩ := ih (b + 1) (own.set b true) true (by omega) ⟨by rw [List.length_set]; exact hol, fun v hv => by
            rw [bAt_set (by omega)]
            split
            · rfl
            · exact hp.sub v hv, fun v hv hv2 => by
            rw [bAt_set (by omega)] at hv2
            by_cases g : v = b
            · rw [g, ← h.one a b ha (by omega) c]; exact hp.cls a ha hoa
            · rw [if_neg g] at hv2; exact hp.cls v hv hv2, fun hm => absurd hm (by simp), fun _ => by
            cases hmo : more with
            | false => rw [← hp.no hmo]; exact hlt
            | true => have := hp.yes hmo; omega⟩ (fun _ => rfl) (fun hm => absurd hm (by simp))
          refine ⟨res, step res (Ev.congr (fun k => (if_pos c).trans (if_neg (by rw [hob]; simp))) hr), hq⟩
      · obtain ⟨res, hr, hq⟩ := ih (b + 1) own more (by omega) hp hs (fun hm ha0 b' hb' he => by
          by_cases g : b' = b
          · rw [g] at he; exact absurd he c
          · exact hc hm ha0 b' (by omega) he)
        exact ⟨res, step res (Ev.congr (fun k => if_neg c) hr), hq⟩
theorem parts_l2 {n : Nat} {rows : List (List Int)} {r : Nat → Nat} (h : Lbl n rows r) (i : Nat) (hi : i < n) (met : List Bool) (out : List (List Int)) (own0 : List Bool) (h0 : own0.length = n) (Q : List (List Int) → Prop)
    (hnext : ∀ own more, Pass n r i own0 own more → (more = false → ∀ a, a < n → bAt own0 a = true → ∀ b, b < n → (rows.getD a []).getD b 0 = 1 → bAt own0 b = true) → ∃ res, Ev (fun k => spec_l02Parts.l1 k rows met out (i : Int) own more) res ∧ Q res) :
    ∀ e a own more, a + e = n → Pass n r i own0 own more → (more = false → ∀ a', a' < a → bAt own0 a' = true → ∀ b, b < n → (rows.getD a' []).getD b 0 = 1 → bAt own0 b = true) → ∃ res, Ev (fun k => spec_l02Parts.l2 k rows met out (i : Int) own more (a : Int)) res ∧ Q res := by
  have hn6 := h.n6
  have hl := h.len
  intro e
  induction e with
  | zero =>
    intro a own more ha hp hc
    obtain ⟨res, hr, hq⟩ := hnext own more hp (fun hm a' ha' => hc hm a' (by omega))
    refine ⟨res, ?_, hq⟩
    refine Ev_succ ?_
    simp only [spec_l02Parts.l2]
    exact Ev.congr (fun k => if_neg (by omega)) hr
  | succ e ih =>
    intro a own more ha hp hc
    obtain ⟨res, hr, hq⟩ := parts_l3 h i hi met out own0 h0 Q a (by omega) more (fun own' more' hp' hs' hc' => ih (a + 1) own' more' (by omega) hp' (fun hm a' ha' h1 => by
      by_cases g : a' = a
      · rw [g] at h1 ⊢; exact hc' hm h1
      · refine hc ?_ a' (by omega) h1
        cases hmo : more with
        | false => rfl
        | true => rw [hs' hmo] at hm; exact absurd hm (by simp))) n 0 own more (by omega) hp (fun hm => hm) (fun _ _ b' hb' => absurd hb' (Nat.not_lt_zero _))
    refine ⟨res, ?_, hq⟩
    refine Ev_succ ?_
    simp only [spec_l02Parts.l2]
    exact Ev.congr (fun k => if_pos (by omega)) hr
theorem parts_l1 {n : Nat} {rows : List (List Int)} {r : Nat → Nat} (h : Lbl n rows r) (i : Nat) (hi : i < n) (met : List Bool) (out : List (List Int)) (Q : List (List Int) → Prop)
    (hnext : ∀ own : List Bool, own.length = n → (∀ v, v < n → (bAt own v = true ↔ r v = r i)) → ∃ res, Ev (fun k => spec_l02Parts.l4 k rows met out (i : Int) own [] 0) res ∧ Q res) :
    ∀ m (own : List Bool), falses own ≤ m → own.length = n → bAt own i = true → (∀ v, v < n → bAt own v = true → r v = r i) → ∃ res, Ev (fun k => spec_l02Parts.l1 k rows met out (i : Int) own true) res ∧ Q res := by
  intro m
  induction m with
  | zero =>
    intro own hm hl hoi hc
    obtain ⟨res, hr, hq⟩ := parts_l2 h i hi met out own hl Q (fun own' more' hp' hcl' => by
      cases hmo : more' with
      | true => have := hp'.yes hmo; omega
      | false =>
        have e := hp'.no hmo
        subst e
        obtain ⟨res, hr, hq⟩ := hnext own' hl (fun v hv => ⟨hc v hv, fun e => h.two (fun v => bAt own' v) (fun a b ha hb hab hoa => hcl' hmo a ha hoa b hb hab) i v hi hv e.symm hoi⟩)
        refine ⟨res, ?_, hq⟩
        refine Ev_succ ?_
        simp only [spec_l02Parts.l1]
        exact Ev.congr (fun k => if_neg (by simp)) hr) n 0 own false (by omega) ⟨hl, fun _ hv => hv, hc, fun _ => rfl, fun hm => absurd hm (by simp)⟩ (fun _ a' ha' => absurd ha' (Nat.not_lt_zero _))
    refine ⟨res, ?_, hq⟩
    refine Ev_succ ?_
    simp only [spec_l02Parts.l1]
    exact Ev.congr (fun k => if_pos trivial) hr
  | succ m ih =>
    intro own hm hl hoi hc
    obtain ⟨res, hr, hq⟩ := parts_l2 h i hi met out own hl Q (fun own' more' hp' hcl' => by
      cases hmo : more' with
      | true =>
        have := hp'.yes hmo
        exact ih own' (by omega) hp'.len (hp'.sub i hoi) hp'.cls
      | false =>
        have e := hp'.no hmo
        subst e
        obtain ⟨res, hr, hq⟩ := hnext own' hl (fun v hv => ⟨hc v hv, fun e => h.two (fun v => bAt own' v) (fun a b ha hb hab hoa => hcl' hmo a ha hoa b hb hab) i v hi hv e.symm hoi⟩)
        refine ⟨res, ?_, hq⟩
        refine Ev_succ ?_
        simp only [spec_l02Parts.l1]
        exact Ev.congr (fun k => if_neg (by simp)) hr) n 0 own false (by omega) ⟨hl, fun _ hv => hv, hc, fun _ => rfl, fun hm => absurd hm (by simp)⟩ (fun _ a' ha' => absurd ha' (Nat.not_lt_zero _))
    refine ⟨res, ?_, hq⟩
    refine Ev_succ ?_
    simp only [spec_l02Parts.l1]
    exact Ev.congr (fun k => if_pos trivial) hr
theorem parts_l4 {n : Nat} {rows : List (List Int)} (hn6 : n ≤ 6) (hl : rows.length = n) (i : Nat) (own : List Bool) (ho : own.length = n) (met0 : List Bool) (out : List (List Int)) (hol : out.length ≤ 100) (Q : List (List Int) → Prop)
    (hnext : ∀ (met : List Bool) (part : List Int), met.length = n → (∀ v, v < n → (bAt met v = true ↔ bAt met0 v = true ∨ bAt own v = true)) → ∃ res, Ev (fun k => spec_l02Parts.l0 k rows met (out ++ [part]) (wrap64 ((i : Int) + 1))) res ∧ Q res) :
    ∀ e a (met : List Bool) (part : List Int), a + e = n → met.length = n → part.length ≤ a → (∀ v, v < n → (bAt met v = true ↔ bAt met0 v = true ∨ (v < a ∧ bAt own v = true))) → ∃ res, Ev (fun k => spec_l02Parts.l4 k rows met out (i : Int) own part (a : Int)) res ∧ Q res := by
  intro e
  induction e with
  | zero =>
    intro a met part ha hm hp hv
    obtain ⟨res, hr, hq⟩ := hnext met part hm (fun v hvn => by rw [hv v hvn]; constructor
                                                               · rintro (g | g); exact .inl g; exact .inr g.2
                                                               · rintro (g | g); exact .inl g; exact .inr ⟨by omega, g⟩)
    refine ⟨res, ?_, hq⟩
    refine Ev_succ ?_
    simp only [spec_l02Parts.l4]
    exact Ev.congr (fun k => if_neg (by omega)) (Ev.congr (fun k => if_pos (by omega)) hr)
  | succ e ih =>
    intro a met part ha hm hp hv
    cases hoa : bAt own a with
    | true =>
      obtain ⟨res, hr, hq⟩ := ih (a + 1) (met.set a true) (part ++ [(a : Int)]) (by omega) (by rw [List.length_set]; exact hm) (by rw [List.length_append, List.length_singleton]; omega) (fun v hvn => by
        rw [bAt_set (by omega)]
        by_cases g : v = a
        · rw [if_pos g, g]; simp [hoa]
        · rw [if_neg g, hv v hvn]
          constructor
          · rintro (q | q); exact .inl q; exact .inr ⟨by omega, q.2⟩
          · rintro (q | q); exact .inl q; exact .inr ⟨by omega, q.2⟩)
      refine ⟨res, ?_, hq⟩
      refine Ev_succ ?_
      simp only [spec_l02Parts.l4]
      refine Ev.congr (fun k => if_pos (by omega)) (Ev.congr (fun k => if_pos (by omega)) (Ev.congr (fun k => if_pos (by omega)) ?_))
      rw [rdB]
      refine Ev.congr (fun k => if_pos hoa) (Ev.congr (fun k => if_pos (by omega)) (Ev.congr (fun k => if_pos (by omega)) ?_))
      rw [Int.toNat_natCast, wS (n := a) (by omega)]
      exact hr
    | false =>
      obtain ⟨res, hr, hq⟩ := ih (a + 1) met part (by omega) hm (by omega) (fun v hvn => by
        rw [hv v hvn]
        constructor
        · rintro (q | q); exact .inl q; exact .inr ⟨by omega, q.2⟩
        · rintro (q | q)
          · exact .inl q
          · refine .inr ⟨?_, q.2⟩
            by_cases g : v = a
            · rw [g, hoa] at q; exact absurd q.2 (by simp)
            · omega)
      refine ⟨res, ?_, hq⟩
      refine Ev_succ ?_
      simp only [spec_l02Parts.l4]
      refine Ev.congr (fun k => if_pos (by omega)) (Ev.congr (fun k => if_pos (by omega)) (Ev.congr (fun k => if_pos (by omega)) ?_))
      rw [rdB, wS (n := a) (by omega)]
      exact Ev.congr (fun k => if_neg (by rw [hoa]; simp)) hr
theorem parts_ev {n : Nat} {rows : List (List Int)} {r : Nat → Nat} (h : Lbl n rows r) : ∃ L, Ev (fun k => spec_l02Parts.f k rows) L ∧ L.length = roots r 0 n := by
  have hn6 := h.n6
  have hl := h.len
  have key : ∀ d i (met : List Bool) (out : List (List Int)), i + d = n → met.length = n → out.length ≤ i → (∀ v, v < n → (bAt met v = true ↔ r v < i)) → ∃ L, Ev (fun k => spec_l02Parts.l0 k rows met out (i : Int)) L ∧ L.length = out.length + roots r i d := by
    intro d
    induction d with
    | zero =>
      intro i met out hi hm ho hv
      refine ⟨out, ?_, rfl⟩
      refine Ev_succ ?_
      simp only [spec_l02Parts.l0]
      exact Ev.congr (fun k => if_neg (by omega)) (Ev.now _)
    | succ d ih =>
      intro i met out hi hm ho hv
      have hin : i < n := by omega
      have hri := h.lab.le i
      cases hmi : bAt met i with
      | true =>
        have h1 := (hv i hin).1 hmi
        obtain ⟨L, hL, hLl⟩ := ih (i + 1) met out (by omega) hm (by omega) (fun v hvn => by
          rw [hv v hvn]
          constructor
          · intro g; omega
          · intro g
            by_cases e : r v = i
            · have := h.lab.idem v
              rw [e] at this; omega
            · omega)
        refine ⟨L, ?_, by rw [hLl, roots, if_neg (by omega)]; omega⟩
        refine Ev_succ ?_
        simp only [spec_l02Parts.l0]
        refine Ev.congr (fun k => if_pos (by omega)) (Ev.congr (fun k => if_pos (by omega)) (Ev.congr (fun k => if_pos (by omega)) ?_))
        rw [rdB, wS (n := i) (by omega)]
        exact Ev.congr (fun k => if_pos hmi) hL
      | false =>
        have h1 : r i = i := by
          have : ¬ r i < i := fun g => by rw [(hv i hin).2 g] at hmi; exact absurd hmi (by simp)
          omega
        have hrep : bAt ((List.replicate n false).set i true) i = true := by rw [bAt_set (by simp; omega), if_pos rfl]
        obtain ⟨L, hL, hLl⟩ := parts_l1 h i hin met out (fun L => L.length = out.length + roots r i (d + 1)) (fun own hol hcls => by
          refine parts_l4 hn6 hl i own hol met out (by omega) _ (fun met' part hm' hv' => ?_) n 0 met [] (by omega) hm (by simp) (fun v hvn => by simp)
          obtain ⟨L, hL, hLl⟩ := ih (i + 1) met' (out ++ [part]) (by omega) hm' (by rw [List.length_append, List.length_singleton]; omega) (fun v hvn => by
            rw [hv' v hvn, hv v hvn, hcls v hvn, h1]; omega)
          refine ⟨L, ?_, by rw [hLl, roots, if_pos h1, List.length_append, List.length_singleton]; omega⟩
          rw [wS (n := i) (by omega)]
          exact hL) n ((List.replicate n false).set i true) (Nat.le_trans List.count_le_length (by simp)) (by simp) hrep (fun v hvn hv2 => by
          rw [bAt_set (by simp; omega)] at hv2
          by_cases g : v = i
          · rw [g]
          · rw [if_neg g] at hv2
            unfold bAt at hv2
            rw [List.getD_eq_getElem?_getD, List.getElem?_replicate] at hv2
            split at hv2 <;> simp at hv2)
        refine ⟨L, ?_, hLl⟩
        refine Ev_succ ?_
        simp only [spec_l02Parts.l0]
        refine Ev.congr (fun k => if_pos (by omega)) (Ev.congr (fun k => if_pos (by omega)) (Ev.congr (fun k => if_pos (by omega)) ?_))
        rw [rdB]
        refine Ev.congr (fun k => if_neg (by rw [hmi]; simp)) (Ev.congr (fun k => if_pos (by omega)) (Ev.congr (fun k => if_pos (by omega)) ?_))
        refine Ev.congr (fun k => Option.bind_some _ _) ?_
        rw [Int.toNat_natCast, Int.toNat_natCast, hl]
        exact Ev.congr (fun k => if_pos (by simp; omega)) hL
  obtain ⟨L, hL, hLl⟩ := key n 0 (List.replicate n false) [] (by omega) (by simp) (by simp) (fun v hvn => by
    unfold bAt
    rw [List.getD_eq_getElem?_getD, List.getElem?_replicate, if_pos hvn]
    simp)
  refine ⟨L, ?_, by rw [hLl]; simp⟩
  unfold spec_l02Parts.f
  refine Ev.congr (fun k => if_pos (by omega)) (Ev.congr (fun k => if_pos (by omega)) ?_)
  rw [Int.toNat_natCast, hl]
  exact hL
end Go.Proofs.Ytnlhhbnoccobmaa.Pure
end
section
namespace Go.Proofs.Ytnlhhbnoccobmaa.Pure
open Go.RowKit Go.Proofs.Ytnlhhbnoccobmaa.F Go.Proofs.Ytnlhhbnoccobmaa.Mem Go.Proofs.Ytnlhhbnoccobmaa.Chrom Go.Proofs.YtnlhhbnoccobmaaW.PrintWords Go.Proofs.YtnlhhbnoccobmaaW.PrintLast
set_option linter.unusedVariables false
set_option linter.unusedSimpArgs false
def edg (L : List (Nat × Nat)) (a b : Nat) : Bool := L.contains (a, b) || L.contains (b, a)
def matRow (n : Nat) (L : List (Nat × Nat)) (a : Nat) : List Int := (List.range n).map fun b => if edg L a b = true then 1 else 0
def mat (n : Nat) (L : List (Nat × Nat)) : List (List Int) := (List.range n).map fun a => matRow n L a
theorem matRow_len (n : Nat) (L : List (Nat × Nat)) (a : Nat) : (matRow n L a).length = n := by simp [matRow]
theorem mat_len (n : Nat) (L : List (Nat × Nat)) : (mat n L).length = n := by simp [mat]
theorem mat_row {n : Nat} (L : List (Nat × Nat)) {a : Nat} (h : a < n) : (mat n L).getD a [] = matRow n L a := by
  unfold mat; rw [List.getD_eq_getElem?_getD, List.getElem?_map, List.getElem?_range h]; rfl
theorem matRow_at {n : Nat} (L : List (Nat × Nat)) (a : Nat) {b : Nat} (h : b < n) : (matRow n L a).getD b 0 = if edg L a b = true then 1 else 0 := by
  unfold matRow; rw [List.getD_eq_getElem?_getD, List.getElem?_map, List.getElem?_range h]; rfl
theorem matRow_nil (n a : Nat) : matRow n [] a = List.replicate n 0 := by
  unfold matRow
  rw [List.map_congr_left (g := fun _ => (0 : Int)) (fun b _ => by simp [edg]), List.map_const']; simp
theorem edg_snoc (L : List (Nat × Nat)) (i k a b : Nat) : edg (L ++ [(i, k)]) a b = (edg L a b || (a == i && b == k) || (b == i && a == k)) := by
  unfold edg
  rw [Bool.eq_iff_iff]
  simp only [Bool.or_eq_true, List.contains_iff_mem, List.mem_append, List.mem_singleton, Prod.mk.injEq, Bool.and_eq_true, beq_iff_eq]
  constructor
  · rintro ((h | h) | (h | h))
    · exact .inl (.inl (.inl h))
    · exact .inl (.inr h)
    · exact .inl (.inl (.inr h))
    · exact .inr h
  · rintro (((h | h) | h) | h)
    · exact .inl (.inl h)
    · exact .inr (.inl h)
    · exact .inl (.inr h)
    · exact .inr (.inr h)
theorem matRow_set {n : Nat} (L : List (Nat × Nat)) (a b : Nat) (hb : b < n) (f : Nat → Bool) (hf : ∀ c, c < n → f c = (edg L a c || c == b)) : (matRow n L a).set b 1 = (List.range n).map fun c => if f c = true then 1 else 0 := by
  apply List.ext_getElem
  · simp [matRow]
  · intro j h1 h2
    have hj : j < n := by simpa using h2
    simp only [matRow, List.getElem_set, List.getElem_map, List.getElem_range]
    rw [hf j hj]
    by_cases e : b = j
    · subst e; simp
    · rw [if_neg e, show (j == b) = false from by simp; omega, Bool.or_false]
theorem matRow_i {n : Nat} (L : List (Nat × Nat)) {i k : Nat} (hk : k < i) (hi : i < n) : matRow n (L ++ [(i, k)]) i = (matRow n L i).set k 1 := by
  rw [matRow_set L i k (by omega) (fun c => edg (L ++ [(i, k)]) i c) (fun c _ => by
    rw [edg_snoc, show (i == k) = false from by simp; omega]; simp)]
  rfl
theorem matRow_k {n : Nat} (L : List (Nat × Nat)) {i k : Nat} (hk : k < i) (hi : i < n) : matRow n (L ++ [(i, k)]) k = (matRow n L k).set i 1 := by
  rw [matRow_set L k i (by omega) (fun c => edg (L ++ [(i, k)]) k c) (fun c _ => by
    rw [edg_snoc, show (k == i) = false from by simp; omega]; simp)]
  rfl
theorem matRow_o {n : Nat} (L : List (Nat × Nat)) {i k a : Nat} (h1 : a ≠ i) (h2 : a ≠ k) : matRow n (L ++ [(i, k)]) a = matRow n L a := by
  unfold matRow
  refine List.map_congr_left fun b _ => ?_
  rw [edg_snoc, show (a == i) = false from by simp; omega, show (a == k) = false from by simp; omega]; simp
theorem mat_lbl (X : Nat → Nat → Bool) (n s : Nat) (hn : n ≤ 6) : Lbl n (mat n (sel (pairsOf X n) s)) (lblOf (pairsOf X n) s id) := by
  have hmem : ∀ (E : List (Nat × Nat)) (s : Nat) (e : Nat × Nat), e ∈ sel E s → e ∈ E := by
    intro E
    induction E with
    | nil => intro s e h; exact h
    | cons a E ih =>
      intro s e h
      rw [sel] at h
      split at h
      · rcases List.mem_cons.1 h with g | g
        · rw [g]; exact List.mem_cons_self
        · exact List.mem_cons_of_mem _ (ih _ _ g)
      · exact List.mem_cons_of_mem _ (ih _ _ h)
  refine ⟨hn, mat_len _ _, fun a ha => by rw [mat_row _ ha, matRow_len], Lab.lblOf _ _ Lab.id, fun a b ha hb h => ?_, fun S hS u v hu hv h => ?_⟩
  · rw [mat_row _ ha, matRow_at _ _ hb] at h
    have he : edg (sel (pairsOf X n) s) a b = true := by
      by_cases g : edg (sel (pairsOf X n) s) a b = true
      · exact g
      · rw [if_neg g] at h; exact absurd h (by decide)
    rw [lbl_sel]
    unfold edg at he
    rcases Bool.or_eq_true_iff.1 he with g | g
    · exact fold_one _ _ (a, b) (List.contains_iff_mem.1 g)
    · exact (fold_one _ _ (b, a) (List.contains_iff_mem.1 g)).symm
  · rw [lbl_sel] at h
    have key : S u = S v := by
      refine fold_two (S := S) (sel (pairsOf X n) s) id (fun u v (e : u = v) => by rw [e]) (fun e he => ?_) u v h
      have hp := mem_pairs.1 (hmem _ _ _ he)
      have h1 : edg (sel (pairsOf X n) s) e.1 e.2 = true := Bool.or_eq_true_iff.2 (.inl (List.contains_iff_mem.2 he))
      have h2 : edg (sel (pairsOf X n) s) e.2 e.1 = true := Bool.or_eq_true_iff.2 (.inr (List.contains_iff_mem.2 he))
      have g1 := hS e.1 e.2 (by omega) (by omega) (by rw [mat_row _ (by omega), matRow_at _ _ (by omega), if_pos h1])
      have g2 := hS e.2 e.1 (by omega) (by omega) (by rw [mat_row _ (by omega), matRow_at _ _ (by omega), if_pos h2])
      cases h3 : S e.1 <;> cases h4 : S e.2
      · rfl
      · rw [g2 h4] at h3; exact absurd h3 (by simp)
      · rw [g1 h3] at h4; exact absurd h4 (by simp)
      · rfl
    intro g; rw [← key]; exact g
def selTo (E : List (Nat × Nat)) (s j : Nat) : List (Nat × Nat) := ((List.range j).filter fun q => s.testBit q).map fun q => E.getD q (0, 0)
def sgnTo (s : Nat) : Nat → Int
  | 0 => 1
  | j + 1 => if s.testBit j = true then -(sgnTo s j) else sgnTo s j
theorem selTo_succ (E : List (Nat × Nat)) (s j : Nat) : selTo E s (j + 1) = if s.testBit j = true then selTo E s j ++ [E.getD j (0, 0)] else selTo E s j := by
  unfold selTo
  rw [List.range_succ, List.filter_append, List.map_append]
  by_cases h : s.testBit j = true
  · rw [if_pos h, List.filter_cons_of_pos (by simpa using h)]; rfl
  · rw [if_neg h, List.filter_cons_of_neg (by simpa using h)]; simp
theorem selTo_cons (e : Nat × Nat) (E : List (Nat × Nat)) (s : Nat) : ∀ j, selTo (e :: E) s (j + 1) = if s % 2 = 1 then e :: selTo E (s / 2) j else selTo E (s / 2) j
  | 0 => by
    rw [selTo_succ]
    have : s.testBit 0 = true ↔ s % 2 = 1 := by rw [Nat.testBit_zero]; simp
    by_cases h : s % 2 = 1
    · rw [if_pos h, if_pos (this.2 h)]; rfl
    · rw [if_neg h, if_neg (fun g => h (this.1 g))]; rfl
  | j + 1 => by
    rw [selTo_succ, selTo_cons e E s j, Nat.testBit_succ, selTo_succ E (s / 2) j]
    by_cases h : s % 2 = 1 <;> by_cases g : (s / 2).testBit j = true <;> simp [h, g]
theorem sel_to : ∀ (E : List (Nat × Nat)) (s : Nat), selTo E s E.length = sel E s
  | [], _ => rfl
  | e :: E, s => by rw [List.length_cons, selTo_cons, sel_to E (s / 2), sel]
theorem sgnTo_half (s : Nat) : ∀ j, sgnTo s (j + 1) = (if s % 2 = 1 then -1 else 1) * sgnTo (s / 2) j
  | 0 => by
    have h1 : sgnTo s (0 + 1) = if s.testBit 0 = true then -(sgnTo s 0) else sgnTo s 0 := rfl
    rw [h1, Nat.testBit_zero]
    show (if decide (s % 2 = 1) = true then -(1 : Int) else 1) = (if s % 2 = 1 then -1 else 1) * 1
    by_cases h : s % 2 = 1 <;> simp [h]
  | j + 1 => by
    rw [sgnTo, sgnTo_half s j, Nat.testBit_succ, sgnTo]
    by_cases g : (s / 2).testBit j = true
    · rw [if_pos g, if_pos g, Int.mul_neg]
    · rw [if_neg g, if_neg g]
theorem sgn_to : ∀ (E : List (Nat × Nat)) (s : Nat), sgnTo s E.length = sgnOf E s
  | [], _ => rfl
  | e :: E, s => by rw [List.length_cons, sgnTo_half, sgn_to E (s / 2), sgnOf]
theorem sgnTo_is (s : Nat) : ∀ j, sgnTo s j = 1 ∨ sgnTo s j = -1
  | 0 => .inl rfl
  | j + 1 => by
    rw [sgnTo]
    rcases sgnTo_is s j with h | h <;> rw [h] <;> split <;> simp
def prow (e : Nat × Nat) : List Int := [(e.1 : Int), (e.2 : Int)]
def pairsTo (X : Nat → Nat → Bool) (i k : Nat) : List (Nat × Nat) := ((List.range i).flatMap fun i => ((List.range i).filter fun k => X i k).map fun k => (i, k)) ++ ((List.range k).filter fun k => X i k).map fun k => (i, k)
theorem pairsTo_zero (X : Nat → Nat → Bool) (n : Nat) : pairsTo X n 0 = pairsOf X n := by simp [pairsTo, pairsOf]
theorem pairsTo_end (X : Nat → Nat → Bool) (i : Nat) : pairsTo X i i = pairsTo X (i + 1) 0 := by
  unfold pairsTo; rw [List.range_succ, List.flatMap_append]; simp
theorem pairsTo_succ (X : Nat → Nat → Bool) (i k : Nat) : pairsTo X i (k + 1) = if X i k = true then pairsTo X i k ++ [(i, k)] else pairsTo X i k := by
  unfold pairsTo
  rw [List.range_succ, List.filter_append, List.map_append, ← List.append_assoc]
  by_cases h : X i k = true
  · rw [if_pos h, List.filter_cons_of_pos (by simpa using h)]; rfl
  · rw [if_neg h, List.filter_cons_of_neg (by simpa using h)]; simp
theorem pairsTo_len (X : Nat → Nat → Bool) {i k : Nat} (hi : i ≤ 6) (hk : k ≤ 6) : (pairsTo X i k).length ≤ 50 := by
  unfold pairsTo
  have h1 := pairs_len X i hi
  have h2 := List.length_filter_le (fun k => X i k) (List.range k)
  rw [List.length_range] at h2
  rw [List.length_append, List.length_map]
  have : (List.flatMap (fun i => List.map (fun k => (i, k)) (List.filter (fun k => X i k) (List.range i))) (List.range i)).length = (pairsOf X i).length := rfl
  omega
theorem pairs_at (X : Nat → Nat → Bool) (n j : Nat) (h : j < (pairsOf X n).length) : ((pairsOf X n).getD j (0, 0)).1 < n ∧ ((pairsOf X n).getD j (0, 0)).2 < ((pairsOf X n).getD j (0, 0)).1 := by
  have hm : (pairsOf X n).getD j (0, 0) ∈ pairsOf X n := by rw [List.getD_eq_getElem?_getD, List.getElem?_eq_getElem h]; exact List.getElem_mem _
  have := mem_pairs.1 hm
  exact ⟨this.1, this.2.1⟩
end Go.Proofs.Ytnlhhbnoccobmaa.Pure
end
section
namespace Go.Proofs.Ytnlhhbnoccobmaa.Pure
open Go.RowKit Go.Proofs.YtnlhhbnoccobmaaW.PrintWords Go.Proofs.YtnlhhbnoccobmaaW.PrintLast
theorem wraps_i64 (n : Int) (h₀ : 0 ≤ n) (h₁ : n < 2 ^ 63) : IntKind.i64.wrap n = n := by rw [IntKind.wrap_i64]; omega
theorem and1_nat (t : Nat) (h : t < 2 ^ 63) : Go.bits .and .i64 (t : Int) 1 = ((t % 2 : Nat) : Int) := by
  have := bits_mask .i64 63 (by decide) wraps_i64 1 (by decide) (t : Int) (by omega) (by exact_mod_cast h)
  simpa using this
end Go.Proofs.Ytnlhhbnoccobmaa.Pure
end
section
namespace Go.Proofs.Ytnlhhbnoccobmaa.F
open Go.RowKit Go.Proofs.YtnlhhbnoccobmaaW.PrintWords Go.Proofs.YtnlhhbnoccobmaaW.PrintLast Go.Proofs.YtnlhhbnoccobmaaW.PrintMore
attribute [local go_sem] max2_int min2_int max_two min_two max_three min_three max_four min_four   
set_option linter.unusedVariables false
set_option linter.unusedSimpArgs false
open Go.Proofs.Ytnlhhbnoccobmaa.Pure Go.Proofs.Ytnlhhbnoccobmaa.Mem Go.Proofs.Ytnlhhbnoccobmaa.Chrom
theorem C_rows {e n B t t' : Nat} {w : World} {rows : List (List Int)} (R : Nat → Nat) (hb : w.heap[B]? = some (.cells ((List.range rows.length).map fun a => Value.slice (some ⟨R a, 0, none⟩) n n).toArray t (0, 0))) (hn : n ≤ maxLen) (hl : rows.length ≤ maxLen)
  (hr : ∀ a, a < rows.length → (rows.getD a []).length = n ∧ w.heap[R a]? = some (.cells (nums .i64 (rows.getD a [])).toArray t' (0, 0))) : Kd.C (Kd.slice e (Kd.int .i64)) w (some ⟨B, 0, none⟩) rows.length rows := by
 refine ⟨rfl, hl, fun _ => ⟨_, rfl, fun j p hj => ?_⟩⟩
 obtain ⟨hjl, hp⟩ := List.getElem?_eq_some_iff.1 hj
 have hg : rows.getD j [] = p := by rw [List.getD_eq_getElem?_getD, hj]; rfl
 obtain ⟨h1, h2⟩ := hr j hjl
 rw [hg] at h1 h2
 refine ⟨[.slice (some ⟨R j, 0, none⟩) p.length n], rfl, ⟨_, n, rfl, by omega, Kd.F_now (F_of_block (e := t') (ok := fun _ => True) h2 rfl (by omega) trivial)⟩, fun i u hu => ?_⟩
 cases i with
 | zero =>
  have h3 := World.news_of_block hb j (.slice (some ⟨R j, 0, none⟩) n n) (by rw [List.getElem?_map, List.getElem?_range hjl]; rfl)
  rw [show (Kd.slice e (Kd.int .i64)).sz = 1 from rfl, Nat.mul_one, Nat.add_zero]
  rw [h3, ← h1]
  simpa [h1] using hu
 | succ i => simp at hu
theorem C_mat {e B t t' n nr : Nat} {w : World} {rows : List (List Int)} (R : Nat → Nat) (hnr : rows.length = nr) (hb : w.heap[B]? = some (.cells ((List.range nr).map fun a => Value.slice (some ⟨R a, 0, none⟩) n n).toArray t (0, 0))) (hn : n ≤ maxLen) (hl : nr ≤ maxLen)
  (hr : ∀ a, a < nr → (rows.getD a []).length = n ∧ w.heap[R a]? = some (.cells (nums .i64 (rows.getD a [])).toArray t' (0, 0))) : Kd.C (Kd.slice e (Kd.int .i64)) w (some ⟨B, 0, none⟩) rows.length rows := by
 subst hnr; exact C_rows R hb hn hl hr
theorem bit_zero (k j : Nat) (hk : k < 2 ^ 62) (hj : j < 64) : (Go.bits .and .i64 ((k : Int) / 2 ^ j) 1 == 0) = !k.testBit j := by
 rw [show ((k : Int) / 2 ^ j) = ((k / 2 ^ j : Nat) : Int) from by rw [Int.natCast_ediv, Int.natCast_pow]; rfl, and1_nat _ (by have := Nat.div_le_self k (2 ^ j); omega), Nat.testBit_eq_decide_div_mod_eq, Bool.eq_iff_iff, beq_iff_eq, Bool.not_eq_true', decide_eq_false_iff_not]
 omega
theorem addr_zero (a : Addr) : a.add 0 = a := by unfold Addr.add; obtain ⟨b, o, x⟩ := a; cases x <;> rfl
theorem far_cell {w : World} {g i : Nat} {u : Value} {ad : Addr} (h : ad.block ≠ g) : (w.setCell ⟨g, i, none⟩ u).cell? ad = w.cell? ad := World.cell?_of_block (Below.heap_setCell w ⟨g, i, none⟩ u ad.block h)
theorem info_rowsp : (Try.prog.info? 22).map (fun i => (i.zero, i.size, i.bytes)) = some (some (.slice none 0 0), 1, 24) := by kernel_rfl
theorem sh_poly {P N : Nat} (hP : P ≤ 36) (hN : N = 2 ^ P) : wrap64 (2 ^ P) = (N : Int) := by
 subst hN
 have h : 2 ^ P ≤ 68719476736 := Nat.le_trans (Nat.pow_le_pow_right (by decide) hP) (by decide)
 rw [show ((2 : Int) ^ P) = ((2 ^ P : Nat) : Int) from (Int.natCast_pow 2 P).symm]
 generalize 2 ^ P = m at *
 unfold wrap64; omega
theorem made_rows (m : Nat) : madeCells (Value.cells (.slice none 0 0)) m = (List.replicate m (Value.slice none 0 0)).toArray := by
 apply Array.ext
 ·rw [size_madeCells]; simp
 ·intro j h1 h2
  have hj : j < m := by rw [size_madeCells] at h1; exact h1
  simp [madeCells, Value.cells, Nat.mod_one]
theorem make_rows {P : Program} {t e : TypeId} (ht : P.underlying t = some (.slice e)) (hinfo : (P.info? e).map (fun i => (i.zero, i.size, i.bytes)) = some (some (.slice none 0 0), 1, 24)) (x : Int) (m : Nat) (hx : x = (m : Int)) (hm : m ≤ 1000) (W : World) :
  (Instr.makeSlice t (.int .i64 x) (.int .i64 x)).run P W = .ok (.slice (some ⟨W.heap.size, 0, none⟩) m m) (W.alloc (.cells (List.replicate m (Value.slice none 0 0)).toArray e)) := by
 subst hx
 obtain ⟨i0, hi, hzz⟩ := Option.map_eq_some_iff.1 hinfo
 simp only [Prod.mk.injEq] at hzz
 obtain ⟨hz0, hz1, hz2⟩ := hzz
 have h := run_make (P := P) W t e i0 (.slice none 0 0) ht hi hz0 .i64 .i64 m m (by omega) (Int.le_refl _) (by rw [hz2]; omega) (by omega)
 rw [h, Int.toNat_natCast, hz1, Nat.mul_one, made_rows]
def slTo (Bx n i : Nat) : List Value := (List.range n).map fun a => if a < i then Value.slice (some ⟨Bx + 1 + a, 0, none⟩) n n else .slice none 0 0
theorem slTo_zero (Bx n : Nat) : slTo Bx n 0 = List.replicate n (Value.slice none 0 0) := by
 unfold slTo
 rw [List.map_congr_left (g := fun _ => Value.slice none 0 0) (fun a _ => if_neg (Nat.not_lt_zero _)), List.map_const']; simp
theorem slTo_succ (Bx n i : Nat) (h : i < n) : (slTo Bx n i).toArray.setIfInBounds i (.slice (some ⟨Bx + 1 + i, 0, none⟩) n n) = (slTo Bx n (i + 1)).toArray := by
 rw [List.setIfInBounds_toArray]
 congr 1
 apply List.ext_getElem
 ·simp [slTo]
 ·intro j h1 h2
  have hj : j < n := by simpa [slTo] using h2
  simp only [slTo, List.getElem_set, List.getElem_map, List.getElem_range]
  by_cases e : i = j
  ·subst e; rw [if_pos rfl, if_pos (by omega)]
  ·rw [if_neg e]
   by_cases g : j < i
   ·rw [if_pos g, if_pos (by omega)]
   ·rw [if_neg g, if_neg (by omega)]
theorem slTo_full (Bx n : Nat) : slTo Bx n n = (List.range n).map fun a => Value.slice (some ⟨Bx + 1 + a, 0, none⟩) n n := by
 unfold slTo
 exact List.map_congr_left fun a ha => if_pos (List.mem_range.1 ha)
theorem slTo_get (Bx n : Nat) {a : Nat} (h : a < n) : (slTo Bx n n).toArray[a]? = some (.slice (some ⟨Bx + 1 + a, 0, none⟩) n n) := by
 rw [slTo_full]; simp [h]
theorem slTo_any (Bx n i : Nat) {a : Nat} (h : a < n) : ∃ u, (slTo Bx n i).toArray[a]? = some u := by
 refine ⟨_, Array.getElem?_eq_getElem (by simp [slTo]; exact h)⟩
theorem nums_put (n : Nat) (l : List Int) (k : Nat) : (nums .i64 l).toArray.setIfInBounds k (.int .i64 1) = (nums .i64 (l.set k 1)).toArray := nums_set l k 1
set_option maxHeartbeats 4000000 in
set_option maxRecDepth 100000 in
theorem poly_walk (l0 : List Int) (A0 : Option Addr) (c0 n : Nat) (hw : Word l0) (hn : n = l0.length / 2) (hc0 : l0.length ≤ c0) (w : World) (hr : Kd.C (Kd.int .i64) w A0 l0.length l0) :
  Calls Try.prog 115 #[.slice A0 l0.length c0] w fun e w' => ∃ v0_ : Value, e = .returned v0_ ∧ Kd.R (Kd.int .i64) 2 w' w.heap.size (fun _ => True) v0_ (polyV l0) ∧ Below w.heap.size w w' := by
 have hle := hw.le
 obtain ⟨X, hX⟩ : ∃ X, X = crossB l0 := ⟨_, rfl⟩
 obtain ⟨m, hm⟩ : ∃ m, m = n + 1 := ⟨_, rfl⟩
 obtain ⟨q, hq⟩ := Ev.rounds (srows_ev l0 hw)
 obtain ⟨rws, hrws⟩ : ∃ rws, rws = rowsOf l0 := ⟨_, rfl⟩
 rw [← hrws] at hq
 have hn6 : n ≤ 6 := by omega
 have hrl : rws.length = n := by rw [hrws, rowsOf, rowsTo_len, hn]
 have hrow : ∀ i, i < n → (rws.getD i []).length = n ∧ ∀ k, k < n → (rws.getD i []).getD k 0 = if X i k = true then 1 else 0 := by
  intro i hi
  have e : rws.getD i [] = rowTo l0 i n := by
   rw [hrws, rowsOf, rowsTo, List.getD_eq_getElem?_getD, List.getElem?_map, List.getElem?_range (by omega), hn]; rfl
  rw [e]
  refine ⟨rowTo_len _ _ _, fun k hk => ?_⟩
  rw [rowTo, List.getD_eq_getElem?_getD, List.getElem?_map, List.getElem?_range hk, hX]; rfl
 have hmk := make_ints (P := Try.prog) Try.underlying22 info2 ((n : Int) + 1) m (by omega) (by omega)
 have hlen : wrap64 ((l0.length : Int) / 2) = (n : Int) := by unfold wrap64; omega
 have HW := Aside0.mk hw
 have HX := Aside0.mk hX
 have HN := Aside0.mk hn
 have HN6 := Aside0.mk hn6
 have HM := Aside0.mk hm
 have HQ := Aside0.mk hq
 have HROW := Aside0.mk hrow
 have HRL := Aside0.mk hrl
 have HR := Aside0.mk hr
 have HC := Aside0.mk hc0
 clear hw hX hn hm hq hrws hr hc0 hle hrl hrow
 go_enter Try.func115, Try.ntmps115
 go_wp2_with (first
  | (go_at_call 135; refine (spec_l01Cross.calls q A0 c0 l0 rws _ HR.out HC.out HQ.out).mono ?_; rintro e w1 ⟨v1, rfl, ho1, hb1⟩; obtain ⟨A1, c1, rfl⟩ := Kd.S_slice ho1; have HF1 := Aside0.mk (Kd.S_F ho1); have HB1 := Aside0.mk hb1; clear ho1 hb1)
  | ((with_reducible refine gate_dst (N := 21) rfl ?_); refine Kd.N_lit (Kd.slice 2 (Kd.int .i64)) (w0 := w1) w1.heap.size 22 ?hg (N' := 21) ?hd (xs := ([] : List (List Int))) (inner := []) (ok := fun k => w1.heap.size ≤ k) (okp := fun _ => False) ?hr ?hp (fun _ hk => hk.elim) (Nat.le_refl _) (Below.refl _ _) (Nat.le_refl _) (by simp) ?_; (case hd => rfl); (case hg => rfl); (case hr => first | (go_simp; done) | (go_simp; rfl)); (case hp => exact (Reps.none _ _)); intro v21 w2 ho2 hb2 hg_ hnew_; have HO2 := Aside0.mk ho2; have HB2 := Aside0.mk hb2; clear ho2 hb2 hg_ hnew_))
 simp only [HRL.out]
 have HF1n : Aside0 (Kd.F (Kd.slice 2 (Kd.int .i64)) w1 (fun _ => True) A1 n rws) := ⟨by have := HF1.out; rw [HRL.out] at this; exact this⟩
 obtain ⟨Bo, hBo⟩ : ∃ Bo, Bo = w2.heap.size := ⟨_, rfl⟩
 rw [← hBo]
 have HBO := Aside0.mk hBo
 have HBL := Aside0.mk (show w1.heap.size ≤ Bo from by rw [hBo]; exact HB2.out.size)
 have HOs : Aside0 (Kd.N (Kd.slice 2 (Kd.int .i64)) 22 (w2.alloc (.cells (nums .i64 (List.replicate m 0)).toArray 2)) w1.heap.size (fun q => w1.heap.size ≤ q ∧ q ≠ Bo) v21 ((pairsTo X 0 0).map prow)) := ⟨by
  have h := Kd.N_alloc (Kd.N_mono (ok' := fun q => w1.heap.size ≤ q ∧ q ≠ Bo) (Kd.N_bound HO2.out) (fun k hk => ⟨hk.1, by have := hk.2; omega⟩)) (.cells (nums .i64 (List.replicate m 0)).toArray 2)
  simpa [pairsTo] using h⟩
 have HHs : Aside0 ((w2.alloc (.cells (nums .i64 (List.replicate m 0)).toArray 2)).heap[Bo]? = some (.cells (nums .i64 (List.replicate m 0)).toArray 2 (0, 0))) := ⟨new_at hBo⟩
 have HBs : Aside0 (Below w1.heap.size w1 (w2.alloc (.cells (nums .i64 (List.replicate m 0)).toArray 2))) := ⟨below_alloc HB2.out _⟩
 clear hBo hmk hlen
 go_loopw [5, 7] (fun s5 s7 wr => ∃ (i : Nat) (v5 : Value), s5 = v5 ∧ s7 = .int .i64 (i : Int) ∧ Aside0 (i ≤ n) ∧ Aside0 (Kd.N (Kd.slice 2 (Kd.int .i64)) 22 wr w1.heap.size (fun q => w1.heap.size ≤ q ∧ q ≠ Bo) v5 ((pairsTo X i 0).map prow)) ∧ Aside0 (wr.heap[Bo]? = some (.cells (nums .i64 (List.replicate m 0)).toArray 2 (0, 0))) ∧ Aside0 (Below w1.heap.size w1 wr))
  (fun _ s7 _ => n - (intOf s7).toNat)
 case atStart => exact ⟨0, _, rfl, rfl, ⟨Nat.zero_le _⟩, HOs, HHs, HBs⟩
 case round =>
  clear HOs HHs HBs
  obtain ⟨i, v5, rfl, rfl, HI, HO, HH, HB⟩ := hrel
  by_cases hlt : i < n
  ·have t1 : decide ((i : Int) < (n : Int)) = true := decide_eq_true (by omega)
   have t2 : decide (i < n) = true := decide_eq_true hlt
   have HLT := Aside0.mk hlt
   go_wp2_with fail
   go_loopw [5, 8] (fun s5 s8 wr => ∃ (k : Nat) (v5 : Value), s5 = v5 ∧ s8 = .int .i64 (k : Int) ∧ Aside0 (k ≤ i) ∧ Aside0 (Kd.N (Kd.slice 2 (Kd.int .i64)) 22 wr w1.heap.size (fun q => w1.heap.size ≤ q ∧ q ≠ Bo) v5 ((pairsTo X i k).map prow)) ∧ Aside0 (wr.heap[Bo]? = some (.cells (nums .i64 (List.replicate m 0)).toArray 2 (0, 0))) ∧ Aside0 (Below w1.heap.size w1 wr))
    (fun _ s8 _ => i - (intOf s8).toNat)
   case atStart => exact ⟨0, _, rfl, rfl, ⟨Nat.zero_le _⟩, HO, HH, HB⟩
   case round =>
    clear HO HH HB
    obtain ⟨k, v5, rfl, rfl, HK, HO, HH, HB⟩ := hrel
    by_cases hk : k < i
    ·have t3 : decide ((k : Int) < (i : Int)) = true := decide_eq_true (by omega)
     have t4 : decide (k < i) = true := decide_eq_true hk
     have t5 : decide (k < n) = true := decide_eq_true (by omega)
     have t6 : decide ((k : Int) < (n : Int)) = true := decide_eq_true (by omega)
     have HKI := Aside0.mk hk
     have hkn : k < n := by omega
     obtain ⟨ad1, cs, rfl, hcl, hFK, hcc, _⟩ := Kd.F_get (Kd.F_below HF1n.out HB.out) [] (i : Int) (by omega) (by omega)
     rw [Int.toNat_natCast] at hFK hcc
     have hrw := HROW.out i hlt
     obtain ⟨Aa, ca, rfl, hal, hFa⟩ := Kd.FK_slice_open hFK
     have hrow := hcc 0 _ rfl
     rw [show (Kd.slice 2 (Kd.int .i64)).sz = 1 from rfl, Nat.mul_one, Nat.add_zero, hrw.1] at hrow
     obtain ⟨ad2, rfl, hcell⟩ := cell_of_C (Kd.F_now hFa) k (by rw [hrw.1]; omega)
     rw [hrw.2 k (by omega)] at hcell
     clear hFK hcc hcl hal hFa hrw
     cases hx : X i k with
     | true =>
      rw [hx, if_pos rfl] at hcell
      have HXX := Aside0.mk hx
      have HP1 := Aside0.mk (pairsTo_len X (i := i) (k := k) (by have := HN6.out; omega) (by have := HN6.out; omega))
      have HLO := Aside0.mk (Kd.N_lt HO.out)
      have HBW := Aside0.mk (blk_lt HH.out)
      clear hx hk
      go_wp2_with (first | (at_builtin; (refine Kd.N_append (Kd.slice 2 (Kd.int .i64)) (w0 := w1) w1.heap.size rfl (.tmp 43) (.tmp 47) 23 22 (.slice none 0 0) 24 rfl Try.underlying23 info_rowsp rfl (by decide) (by omega) u5 ((pairsTo X i k).map prow) (prow (i, k)) [.slice (some ⟨wr.heap.size, 0, none⟩) 2 2] (fun q => w1.heap.size ≤ q ∧ q ≠ Bo) (fun q => q = wr.heap.size) rfl ?hx ?aP ?aK ?aF ?aO ?aB ?aS ?aL ?_; (case hx => simp [Act.eval, Act.put]); (case aP => exact Kd.FK_slice_mk (c := 2) (l := prow (i, k)) (Nat.le_refl _) (F_of_block (e := 2) (ok := fun q => q = wr.heap.size) (xs := prow (i, k)) (new_at rfl) rfl (by show 2 ≤ maxLen; unfold maxLen; omega) rfl)); (case aO => exact Kd.N_alloc HO.out _); (case aK => exact fun q hq => ⟨⟨by rw [hq]; exact HB.out.size, by rw [hq]; have := HBW.out; omega⟩, fun e => by have h1 := HLO.out q e.symm; omega⟩); (case aF => exact fun q hq => by have h1 := HBW.out; have h2 := HB.out.size; simp at hq; omega); (case aB => exact below_alloc HB.out _); (case aS => have := HB.out.size; simp; omega); (case aL => have h1 := HP1.out; rw [List.length_map]; omega); intro v9 w9 ho9 hb9 hg9 hat9; have HO9 := Aside0.mk ho9; have HB9 := Aside0.mk hb9; have HG9 := Aside0.mk hg9; clear ho9 hb9 hg9 hat9)))
      go_roundw
      case rel => exact ⟨k + 1, _, rfl, (by first | rfl | exact congrArg _ (wS (by have := HKI.out; have := HLT.out; have := HN6.out; omega))), ⟨HKI.out⟩, ⟨by rw [pairsTo_succ, if_pos HXX.out, List.map_append]; exact HO9.out⟩, ⟨(HG9.out.block Bo (by have := HBW.out; simp; omega) (fun e => (HO.out.1 Bo e.symm).2 rfl)).trans (blk_alloc HH.out _)⟩, HB9⟩
      case measure => have h1 := HKI.out; have h2 := HLT.out; have h3 := HN6.out; (try rw [wS (by omega)]); simp [intOf]; omega
     | false =>
      rw [hx, if_neg (by simp)] at hcell
      have HXX := Aside0.mk hx
      clear hx hk
      go_wp2_with fail
      go_roundw
      case rel => exact ⟨k + 1, _, rfl, (by first | rfl | exact congrArg _ (wS (by have := HKI.out; have := HLT.out; have := HN6.out; omega))), ⟨HKI.out⟩, ⟨by rw [pairsTo_succ, if_neg (by rw [HXX.out]; simp)]; exact HO.out⟩, HH, HB⟩
      case measure => have h1 := HKI.out; have h2 := HLT.out; have h3 := HN6.out; (try rw [wS (by omega)]); simp [intOf]; omega
    ·have t3 : decide ((k : Int) < (i : Int)) = false := decide_eq_false (by omega)
     have t4 : decide (k < i) = false := decide_eq_false hk
     have HKE := Aside0.mk (show k = i from by have := HK.out; omega)
     clear hk
     go_wp2
     go_roundw
     case rel => exact ⟨i + 1, _, rfl, (by first | rfl | exact congrArg _ (wS (by have := HLT.out; have := HN6.out; omega))), ⟨HLT.out⟩, ⟨by rw [← pairsTo_end]; have h := HO.out; rw [HKE.out] at h; exact h⟩, HH, HB⟩
     case measure => have h2 := HLT.out; have h3 := HN6.out; (try rw [wS (by omega)]); simp [intOf]; omega
  ·have t1 : decide ((i : Int) < (n : Int)) = false := decide_eq_false (by omega)
   have t2 : decide (i < n) = false := decide_eq_false hlt
   have HIE := Aside0.mk (show i = n from by have := HI.out; omega)
   clear hlt
   obtain ⟨E, hE⟩ : ∃ E, E = pairsOf X n := ⟨_, rfl⟩
   have ho := HO.out
   rw [HIE.out, pairsTo_zero, ← hE] at ho
   obtain ⟨A5, c5, rfl⟩ := Kd.N_slice ho
   have hFP := Kd.N_F ho
   obtain ⟨P, hP⟩ : ∃ P, P = E.length := ⟨_, rfl⟩
   rw [List.length_map, ← hP] at hFP
   obtain ⟨N, hN⟩ : ∃ N, N = 2 ^ P := ⟨_, rfl⟩
   have hP36 : P ≤ 36 := by rw [hP, hE]; exact pairs_len X n hn6
   have hN2 : N ≤ 68719476736 := by rw [hN]; exact Nat.le_trans (Nat.pow_le_pow_right (by decide) hP36) (by decide)
   have hsh := sh_poly hP36 hN
   simp only [List.length_map, ← hP]
   have HE := Aside0.mk hE
   have HFP := Aside0.mk hFP
   have HP := Aside0.mk hP
   have HNN := Aside0.mk hN
   have HHs : Aside0 (wr.heap[Bo]? = some (.cells (nums .i64 (polyTo l0 0)).toArray 2 (0, 0))) := ⟨by rw [polyTo, ← HN.out, ← HM.out]; exact HH.out⟩
   have HBW := Aside0.mk (blk_lt HH.out)
   clear ho hE hFP hP hN HO HH HI
   go_wp2_with fail
   obtain ⟨wp, hwp⟩ : ∃ wp, wp = wr := ⟨wr, rfl⟩
   subst hwp
   have hmr := make_rows (P := Try.prog) Try.underlying23 info_rowsp (n : Int) n rfl (by omega)
   have hmk := make_ints (P := Try.prog) Try.underlying22 info2 (n : Int) n rfl (by omega)
   go_loopw [9] (fun s9 wq => ∃ s : Nat, s9 = .int .i64 (s : Int) ∧ Aside0 (s ≤ N) ∧ Aside0 (wp.grownBy wq (some Bo)) ∧ Aside0 (wq.heap[Bo]? = some (.cells (nums .i64 (polyTo l0 s)).toArray 2 (0, 0))))
    (fun s9 _ => N - (intOf s9).toNat)
   case atStart => exact ⟨0, rfl, ⟨Nat.zero_le _⟩, ⟨grown_refl _ _⟩, HHs⟩
   case round =>
    clear HHs
    obtain ⟨s, rfl, HS, HG, HH⟩ := hrel
    have HFPr := Aside0.mk (Kd.F_grown HFP.out HG.out (fun k hk e => hk.2 (Option.some.inj e)))
    have HBW3 := Aside0.mk (blk_lt HH.out)
    by_cases hlt : s < N
    ·have t1 : decide ((s : Int) < (N : Int)) = true := decide_eq_true (by omega)
     have t2 : decide (s < N) = true := decide_eq_true hlt
     have HLT := Aside0.mk hlt
     clear hlt
     obtain ⟨Bx, hBx⟩ : ∃ Bx, Bx = wr.heap.size := ⟨_, rfl⟩
     have HBX := Aside0.mk hBx
     obtain ⟨wo, hwo⟩ : ∃ wo, wo = wr := ⟨wr, rfl⟩
     subst hwo
     go_wp2_with fail
     rw [← hBx]
     have HX0 : Aside0 ((wo.alloc (.cells (Array.replicate n (Value.slice none 0 0)) 22)).heap[Bx]? = some (.cells (slTo Bx n 0).toArray 22 (0, 0))) := ⟨by rw [slTo_zero, List.toArray_replicate]; exact new_at hBx⟩
     have HS0 : Aside0 ((wo.alloc (.cells (Array.replicate n (Value.slice none 0 0)) 22)).heap.size = Bx + 1 + 0) := ⟨by simp [hBx]⟩
     clear hBx
     (try simp only [hsh])
     go_loopw [12] (fun s12 wq => ∃ i : Nat, s12 = .int .i64 (i : Int) ∧ Aside0 (i ≤ n) ∧ Aside0 (wo.grownBy wq none) ∧ Aside0 (wq.heap.size = Bx + 1 + i) ∧ Aside0 (wq.heap[Bx]? = some (.cells (slTo Bx n i).toArray 22 (0, 0))) ∧ Aside0 (∀ a, a < i → wq.heap[Bx + 1 + a]? = some (.cells (nums .i64 (List.replicate n 0)).toArray 2 (0, 0))))
      (fun s12 _ => n - (intOf s12).toNat)
     case atStart => exact ⟨0, rfl, ⟨Nat.zero_le _⟩, ⟨grown_alloc (grown_refl _ _) _⟩, HS0, HX0, ⟨fun a ha => absurd ha (Nat.not_lt_zero _)⟩⟩
     case round =>
      clear HX0 HS0
      obtain ⟨i, rfl, HI, HG4, HSZ, HX4, HR4⟩ := hrel
      by_cases hi : i < n
      ·have t3 : decide ((i : Int) < (n : Int)) = true := decide_eq_true (by omega)
       have t4 : decide (i < n) = true := decide_eq_true hi
       obtain ⟨u, hu⟩ := slTo_any Bx n i hi
       have hx := (blk_cell (blk_alloc HX4.out (.cells (nums .i64 (List.replicate n 0)).toArray 2)) i).trans hu
       have hfz := blk_frozen (blk_alloc HX4.out (.cells (nums .i64 (List.replicate n 0)).toArray 2)) i
       have HIN := Aside0.mk hi
       go_wp2_with fail
       go_roundw
       case rel =>
        refine ⟨i + 1, (by first | rfl | exact congrArg _ (wS (by have := HIN.out; have := HN6.out; omega))), ⟨HIN.out⟩, ⟨grown_put_new (grown_alloc HG4.out _) (by rw [HBX.out]; exact Nat.le_refl _) _ _⟩, ⟨by have := HSZ.out; simp [World.setCell]; omega⟩, ⟨?_⟩, ⟨fun a ha => ?_⟩⟩
        ·have h := blk_set (blk_alloc HX4.out (.cells (nums .i64 (List.replicate n 0)).toArray 2)) i (.slice (some ⟨wr.heap.size, 0, none⟩) n n)
         rw [HSZ.out, slTo_succ Bx n i HIN.out] at h
         rw [HSZ.out]
         exact h
        ·by_cases e : a = i
         ·subst e
          exact blk_far (new_at HSZ.out.symm) (show Bx + 1 + a ≠ Bx from by omega) _
         ·exact blk_far (blk_alloc (HR4.out a (by omega)) _) (show Bx + 1 + a ≠ Bx from by omega) _
       case measure => have h2 := HIN.out; have h3 := HN6.out; (try rw [wS (by omega)]); simp [intOf]; omega
      ·have t3 : decide ((i : Int) < (n : Int)) = false := decide_eq_false (by omega)
       have t4 : decide (i < n) = false := decide_eq_false hi
       have HIN := Aside0.mk (show i = n from by have := HI.out; omega)
       clear hi
       have hx4 := HX4.out
       have hr4 := HR4.out
       rw [HIN.out] at hx4 hr4
       have HX5 : Aside0 (wr.heap[Bx]? = some (.cells (slTo Bx n n).toArray 22 (0, 0))) := ⟨hx4⟩
       have HR5 : Aside0 (∀ a, a < n → wr.heap[Bx + 1 + a]? = some (.cells (nums .i64 (matRow n (selTo E s 0) a)).toArray 2 (0, 0))) := ⟨fun a ha => by
        have h := hr4 a ha
        rw [show selTo E s 0 = [] from rfl, matRow_nil]; exact h⟩
       clear hx4 hr4 HR4 HX4 HSZ HI hmr hmk
       have HFB : Aside0 (Kd.F (Kd.slice 2 (Kd.int .i64)) wo (fun q => q < Bx) A5 P (E.map prow)) := ⟨Kd.F_mono (Kd.F_bound HFPr.out) (fun q hq => by rw [HBX.out]; exact hq.2)⟩
       go_wp2_with fail
       (try simp only [hsh])
       go_loopw [11, 13] (fun s11 s13 wq => ∃ j : Nat, s11 = .int .i64 (sgnTo s j) ∧ s13 = .int .i64 (j : Int) ∧ Aside0 (j ≤ P) ∧ Aside0 (wo.grownBy wq none) ∧ Aside0 (wq.heap[Bx]? = some (.cells (slTo Bx n n).toArray 22 (0, 0))) ∧ Aside0 (∀ a, a < n → wq.heap[Bx + 1 + a]? = some (.cells (nums .i64 (matRow n (selTo E s j) a)).toArray 2 (0, 0))))
        (fun _ s13 _ => P - (intOf s13).toNat)
       case atStart => exact ⟨0, rfl, rfl, ⟨Nat.zero_le _⟩, HG4, HX5, HR5⟩
       case round =>
        clear HG4 HX5 HR5
        obtain ⟨j, rfl, rfl, HJ, HG5, HX5, HR5⟩ := hrel
        by_cases hj : j < P
        ·have t5 : decide ((j : Int) < (P : Int)) = true := decide_eq_true (by omega)
         have t6 : decide (j < P) = true := decide_eq_true hj
         have HJP := Aside0.mk hj
         have hb0 := bit_zero s j (by have := HLT.out; omega) (by omega)
         obtain ⟨sg, hsg⟩ : ∃ sg, sg = sgnTo s j := ⟨_, rfl⟩
         have hs1 : sg = 1 ∨ sg = -1 := by rw [hsg]; exact sgnTo_is s j
         rw [← hsg]
         have HSG := Aside0.mk hsg
         have HS1 := Aside0.mk hs1
         clear hsg hs1
         cases hbt : s.testBit j with
         | false =>
          rw [hbt] at hb0; simp only [Bool.not_false, Bool.not_true] at hb0
          have HBT := Aside0.mk hbt
          clear hbt
          go_wp2_with fail
          go_roundw
          case rel => exact ⟨j + 1, (by rw [sgnTo, if_neg (by rw [HBT.out]; simp), HSG.out]), (by first | rfl | exact congrArg _ (wS (by have := HJP.out; omega))), ⟨HJP.out⟩, HG5, HX5, ⟨by rw [selTo_succ, if_neg (by rw [HBT.out]; simp)]; exact HR5.out⟩⟩
          case measure => have h2 := HJP.out; (try rw [wS (by omega)]); simp [intOf]; omega
         | true =>
          rw [hbt] at hb0; simp only [Bool.not_false, Bool.not_true] at hb0
          have HBT := Aside0.mk hbt
          clear hbt
          have HFj := Kd.F_grown HFB.out HG5.out (fun k hk e => by simp at e)
          have hEj := pairs_at X n j (by rw [← HE.out, ← HP.out]; exact hj)
          rw [← HE.out] at hEj
          obtain ⟨⟨ia, kb⟩, hab⟩ : ∃ ab, ab = E.getD j (0, 0) := ⟨_, rfl⟩
          rw [← hab] at hEj
          obtain ⟨hia, hkb⟩ : ia < n ∧ kb < ia := hEj
          have hkn : kb < n := by omega
          obtain ⟨ad5, cs, rfl, hcl, hFK, hcc, _⟩ := Kd.F_get HFj [] (j : Int) (by omega) (by omega)
          have hblk5 : ad5.block < Bx := Kd.F_in HFj rfl (by omega) (by decide)
          rw [Int.toNat_natCast] at hFK hcc
          rw [show (E.map prow).getD j [] = prow (ia, kb) from by rw [hab, List.getD_eq_getElem?_getD, List.getElem?_map, List.getElem?_eq_getElem (by rw [← HP.out]; exact hj), List.getD_eq_getElem?_getD, List.getElem?_eq_getElem (by rw [← HP.out]; exact hj)]; rfl] at hFK
          obtain ⟨Ap, cp, rfl, hal, hFa⟩ := Kd.FK_slice_open hFK
          have hpr := hcc 0 _ rfl
          rw [show (Kd.slice 2 (Kd.int .i64)).sz = 1 from rfl, Nat.mul_one, Nat.add_zero, show (prow (ia, kb)).length = 2 from rfl] at hpr
          obtain ⟨ad6, rfl, hp0⟩ := cell_of_C (Kd.F_now hFa) 0 (by show 0 < 2; omega)
          obtain ⟨ad7, he7, hp1⟩ := cell_of_C (Kd.F_now hFa) 1 (by show 1 < 2; omega)
          obtain rfl := Option.some.inj he7
          have hblk6 : ad6.block < Bx := Kd.F_in hFa rfl (by show 0 < 2; omega) (by decide)
          rw [show (prow (ia, kb)).getD 0 0 = (ia : Int) from rfl] at hp0
          rw [show (prow (ia, kb)).getD 1 0 = (kb : Int) from rfl] at hp1
          have ho1 := (blk_cell HX5.out ia).trans (slTo_get Bx n hia)
          have ho2 := (blk_cell HX5.out kb).trans (slTo_get Bx n hkn)
          have hR1 := HR5.out ia hia
          have hR2 := HR5.out kb hkn
          have hx1 := (blk_cell hR1 kb).trans (nums_get _ kb (by rw [matRow_len]; exact hkn))
          have hf1 := blk_frozen hR1 kb
          have hp0z := (congrArg _ (addr_zero ad6).symm).trans hp0
          have hp1z : wr.cell? ⟨ad6.block, ad6.off + 1, none⟩ = some (.int .i64 (kb : Int)) := hp1
          have HAB := Aside0.mk hab
          have HIA := Aside0.mk hia
          have HKB := Aside0.mk hkb
          have HRR1 := Aside0.mk hR1
          have HRB := Aside0.mk hR2
          have HB5 := Aside0.mk hblk5
          have HB6 := Aside0.mk hblk6
          clear hR1 hR2 hFK hFa hal hcc hcl hab hblk5 hblk6 HFj
          go_wp2_with fail
          go_quiet (fail)
          have hblk5 := HB5.out
          have hblk6 := HB6.out
          have hR2' := blk_far (blk_drewN HRB.out nq) (p := ⟨Bx + 1 + ia, kb, none⟩) (show Bx + 1 + kb ≠ Bx + 1 + ia from by omega) (.int .i64 1)
          have hx2 := (blk_cell hR2' ia).trans (nums_get _ ia (by rw [matRow_len]; exact hia))
          have hf2 := blk_frozen hR2' ia
          have hpr' := (far_cell (w := wr.drewN nq) (g := Bx + 1 + ia) (i := kb) (u := .int .i64 1) (ad := ad5.add j) (by rw [add_block]; omega)).trans (show (wr.drewN nq).cell? (ad5.add j) = _ from hpr)
          have hp0' := (far_cell (w := wr.drewN nq) (g := Bx + 1 + ia) (i := kb) (u := .int .i64 1) (ad := ad6.add 0) (by rw [add_block]; omega)).trans (show (wr.drewN nq).cell? (ad6.add 0) = _ from hp0)
          have hp0z' := (congrArg _ (addr_zero ad6).symm).trans hp0'
          have HRR2 := Aside0.mk hR2'
          clear hR2' hblk5 hblk6
          go_wp2_with fail
          go_roundw
          case rel =>
           refine ⟨j + 1, ?_, (by first | rfl | exact congrArg _ (wS (by have := HJP.out; omega))), ⟨HJP.out⟩, ⟨grown_put_new (grown_put_new (grown_drewN HG5.out _) (by have := HBX.out; omega) _ _) (by have := HBX.out; omega) _ _⟩, ⟨?_⟩, ⟨fun a ha => ?_⟩⟩
           ·have e : wrap64 (-sg) = sgnTo s (j + 1) := by
             rw [sgnTo, if_pos HBT.out, ← HSG.out]
             rcases HS1.out with h | h <;> rw [h] <;> unfold wrap64 <;> omega
            rw [e]
           ·exact blk_far (blk_far (blk_drewN HX5.out nq) (show Bx ≠ Bx + 1 + ia from by omega) _) (show Bx ≠ Bx + 1 + kb from by omega) _
           ·have hka := HKB.out
            have hin := HIA.out
            rw [selTo_succ, if_pos HBT.out, ← HAB.out]
            by_cases e1 : a = ia
            ·subst e1
             rw [matRow_i _ hka hin, ← nums_put n]
             exact blk_far (blk_set (blk_drewN HRR1.out nq) kb _) (show Bx + 1 + a ≠ Bx + 1 + kb from by omega) _
            ·by_cases e2 : a = kb
             ·subst e2
              rw [matRow_k _ hka hin, ← nums_put n]
              exact blk_set HRR2.out ia _
             ·rw [matRow_o _ e1 e2]
              exact blk_far (blk_far (blk_drewN (HR5.out a ha) nq) (show Bx + 1 + a ≠ Bx + 1 + ia from by omega) _) (show Bx + 1 + a ≠ Bx + 1 + kb from by omega) _
          case measure => have h2 := HJP.out; (try rw [wS (by omega)]); simp [intOf]; omega
        ·have t5 : decide ((j : Int) < (P : Int)) = false := decide_eq_false (by omega)
         have t6 : decide (j < P) = false := decide_eq_false hj
         have HJP := Aside0.mk (show j = P from by have := HJ.out; omega)
         clear hj
         obtain ⟨Lr, hLr, hLl⟩ := parts_ev (mat_lbl X n s hn6)
         obtain ⟨K, hK⟩ := Ev.rounds hLr
         have hsel : selTo E s j = sel (pairsOf X n) s := by rw [HJP.out, HP.out, HE.out, sel_to]
         have hq : qOf l0 s = Lr.length := by rw [hLl, qOf, ← HX.out, ← HN.out]
         have hsg : sgnTo s j = sOf l0 s := by rw [HJP.out, HP.out, sgn_to, HE.out, sOf, ← HX.out, ← HN.out]
         obtain ⟨sg, hsg2⟩ : ∃ sg, sg = sgnTo s j := ⟨_, rfl⟩
         rw [← hsg2]
         have HSG := Aside0.mk (hsg2.trans hsg)
         have hqm : Lr.length < m := by
          have := roots_le (lblOf (pairsOf X n) s id) n 0
          have := HM.out
          omega
         have hpl : (polyTo l0 s).length = m := by rw [polyTo_len, HM.out, HN.out]
         have hr5 := HR5.out
         rw [hsel] at hr5
         have hmatC : ∀ W : World, W.heap[Bx]? = some (.cells (slTo Bx n n).toArray 22 (0, 0)) → (∀ a, a < n → W.heap[Bx + 1 + a]? = some (.cells (nums .i64 (matRow n (sel (pairsOf X n) s) a)).toArray 2 (0, 0))) → Kd.C (Kd.slice 2 (Kd.int .i64)) W (some ⟨Bx, 0, none⟩) (mat n (sel (pairsOf X n) s)).length (mat n (sel (pairsOf X n) s)) := by
          intro W h1 h2
          rw [slTo_full] at h1
          refine C_mat (fun a => Bx + 1 + a) (mat_len _ _) h1 (by unfold maxLen; omega) (by unfold maxLen; omega) (t' := 2) (fun a ha => ?_)
          rw [mat_row _ ha]
          exact ⟨matRow_len _ _ _, h2 a ha⟩
         have HMC := Aside0.mk hmatC
         have HK := Aside0.mk hK
         have HQ2 := Aside0.mk hq
         have HR6 := Aside0.mk hr5
         have HPL := Aside0.mk hpl
         have HQM := Aside0.mk hqm
         clear hmatC hLr hLl hK hsel hq hsg hsg2 hr5 HR5 hpl
         go_wp2_with (first
          | (go_at_call 172; refine (calls_len0 (mat_len n (sel (pairsOf X n) s)) (spec_l02Parts.calls K (some ⟨Bx, 0, none⟩) n (mat n (sel (pairsOf X n) s)) Lr wr (HMC.out wr HX5.out HR6.out) (by rw [mat_len]; exact Nat.le_refl _) HK.out)).mono ?_; rintro e w8 ⟨v8, rfl, ho8, hb8⟩; obtain ⟨A8, c8, rfl⟩ := Kd.S_slice ho8; have HB8 := Aside0.mk hb8; have HX8 := Aside0.mk (blk_below HX5.out hb8); have HR8 : Aside0 (∀ a, a < n → w8.heap[Bx + 1 + a]? = some (.cells (nums .i64 (matRow n (sel (pairsOf X n) s) a)).toArray 2 (0, 0))) := ⟨fun a ha => blk_below (HR6.out a ha) hb8⟩; clear ho8 hb8)
          | (go_at_call 172; refine (calls_len0 (mat_len n (sel (pairsOf X n) s)) (spec_l02Parts.calls K (some ⟨Bx, 0, none⟩) n (mat n (sel (pairsOf X n) s)) Lr w8 (HMC.out w8 HX8.out HR8.out) (by rw [mat_len]; exact Nat.le_refl _) HK.out)).mono ?_; rintro e w9 ⟨v9, rfl, ho9, hb9⟩; obtain ⟨A9, c9, rfl⟩ := Kd.S_slice ho9; have HG9 := Aside0.mk (grown_trans HG5.out (grown_trans (gb_of_below HB8.out none) (gb_of_below hb9 none))); have HH9 := Aside0.mk (blk_grown HH.out HG9.out (by simp)); have hx9 := (blk_cell HH9.out Lr.length).trans (nums_get _ Lr.length (by rw [HPL.out]; exact HQM.out)); have hf9 := blk_frozen HH9.out Lr.length; clear ho9 hb9))
         go_roundw
         case rel =>
          refine ⟨s + 1, (by first | rfl | exact congrArg _ (wS (by have := HLT.out; omega))), ⟨HLT.out⟩, ⟨grown_set (grown_trans HG.out (grown_of_none HG9.out _)) _ _⟩, ⟨?_⟩⟩
          rw [polyTo, HQ2.out, ← HSG.out, ← nums_set]
          exact blk_set HH9.out _ _
         case measure => have h2 := HLT.out; (try rw [wS (by omega)]); simp [intOf]; omega
    ·have t1 : decide ((s : Int) < (N : Int)) = false := decide_eq_false (by omega)
     have t2 : decide (s < N) = false := decide_eq_false hlt
     have HSE := Aside0.mk (show s = N from by have := HS.out; omega)
     clear hlt
     go_wp2
     go_ret
     refine ⟨_, rfl, ?_, ?_⟩
     ·have e : polyV l0 = polyTo l0 s := by rw [polyV, HSE.out, HNN.out, HP.out, HE.out, HX.out, HN.out]
      rw [e]
      exact R_of_block HH.out (by rw [polyTo_len, HM.out, HN.out]) (by have := HM.out; have := HN6.out; unfold maxLen; omega) (by have := HBL.out; have := HB1.out.size; omega)
     ·exact below_step HB1.out (below_grown HB.out HG.out HBL.out)
def spec_l10Polynomial.f (l0 : List Int) : Option (List Int) := if isW l0 = true then some (polyV l0) else none
theorem spec_l10Polynomial.calls (A0 : Option Addr) (c0 : Nat) (l0 : List Int) (r : List Int) (w : World) (hr0 : Kd.C (Kd.int .i64) w A0 l0.length l0) (hc0 : l0.length ≤ c0) (h : spec_l10Polynomial.f l0 = some r) :
  Calls Try.prog 115 #[.slice A0 l0.length c0] w fun e w' => ∃ v0_ : Value, e = .returned v0_ ∧ Kd.R (Kd.int .i64) 2 w' w.heap.size (fun _ => True) v0_ r ∧ Below w.heap.size w w' := by
 unfold spec_l10Polynomial.f at h
 by_cases hk : isW l0 = true
 ·rw [if_pos hk] at h
  obtain rfl := Option.some.inj h
  exact poly_walk l0 A0 c0 _ ((isW_iff l0).1 hk) rfl hc0 w hr0
 ·rw [if_neg hk] at h; exact absurd h (by simp)
end Go.Proofs.Ytnlhhbnoccobmaa.F
end
section
namespace Go.Proofs.Ytnlhhbnoccobmaa.F
open Go.RowKit Go.Proofs.YtnlhhbnoccobmaaW.PrintWords Go.Proofs.YtnlhhbnoccobmaaW.PrintLast Go.Proofs.YtnlhhbnoccobmaaW.PrintMore
attribute [local go_sem] max2_int min2_int max_two min_two max_three min_three max_four min_four   
set_option linter.unusedVariables false
set_option linter.unusedSimpArgs false
def spec_ColouringPolynomial.f (k : Nat) (l0 : List Int) : Option (List Int × Int) := (spec_l10Code.f k l0 ([] : List Int)).bind fun t341001 => (if t341001 = 0 then ((spec_l10Polynomial.f l0).bind fun t341002 => (some (t341002, 0))) else (some (([] : List Int), t341001)))
theorem spec_ColouringPolynomial.mono : ∀ a0 k, LeO (spec_ColouringPolynomial.f k a0) (spec_ColouringPolynomial.f (k + 1) a0) := by
  intro a0 k
  unfold spec_ColouringPolynomial.f
  repeat' first
      | (with_reducible exact spec_l10Code.mono _ _ _)
      | (with_reducible exact LeO.refl _)
      | (with_reducible exact LeO.none _)
      | (with_reducible refine LeO.ite ?_ ?_)
      | (with_reducible refine LeO.bind ?_ (fun _ => ?_))
      | exact spec_l10Code.mono _ _ _
      | exact LeO.none _
      | refine LeO.ite ?_ ?_
      | refine LeO.bind ?_ (fun _ => ?_)
set_option maxHeartbeats 8000000 in
set_option maxRecDepth 100000 in
theorem spec_ColouringPolynomial.calls (k : Nat) (A0 : Option Addr) (c0 : Nat) (l0 : List Int) (r1 : List Int) (r2 : Int) (w : World) (hr0 : Kd.C (Kd.int .i64) w A0 l0.length l0) (hc0 : l0.length ≤ c0) (h : spec_ColouringPolynomial.f k l0 = some (r1, r2)) :
    Calls Try.prog 34 #[.slice A0 l0.length c0] w fun e w' => ∃ v0_ : Value, e = .returned (.tuple #[v0_, .int .i64 r2]) ∧ Kd.R (Kd.int .i64) 2 w' w.heap.size (fun _ => True) v0_ r1 ∧ Below w.heap.size w w' := by
  have HR0 := Aside0.mk hr0
  have HC0 := Aside0.mk hc0
  clear hr0 hc0
  have HB := Aside0.mk (Below.refl w.heap.size w)
  have H : ((spec_l10Code.f k l0 ([] : List Int)).bind fun t341001 => (if t341001 = 0 then ((spec_l10Polynomial.f l0).bind fun t341002 => (some (t341002, 0))) else (some (([] : List Int), t341001)))) = some (r1, r2) := h
  clear h
  replace H := Option.bind_eq_some_iff.mp H
  obtain ⟨t341001, A20, H⟩ := H
  replace H : (if t341001 = 0 then ((spec_l10Polynomial.f l0).bind fun t341002 => (some (t341002, 0))) else (some (([] : List Int), t341001))) = some (r1, r2) := H
  have A2 := Aside0.mk A20
  clear A20
  by_cases c3 : t341001 = 0
  · rw [if_pos c3] at H
    have c3b0 : (t341001 == 0) = true := beq_iff_eq.mpr c3
    have c3b1 : (t341001 != 0) = false := bne_eq_false_iff_eq.mpr c3
    clear c3
    replace H := Option.bind_eq_some_iff.mp H
    obtain ⟨t341002, A40, H⟩ := H
    replace H : (some (t341002, 0)) = some (r1, r2) := H
    have A4 := Aside0.mk A40
    clear A40
    simp only [Option.some.injEq, Prod.mk.injEq] at H
    obtain ⟨rfl, rfl⟩ := H
    go_enter Try.func34, Try.ntmps34
    go_wp2_with (first | ((with_reducible refine gate_callee (f := 114) rfl ?_); refine goesL_ (some 6) rfl rfl Try.func114 (by kernel_rfl) rfl #[.slice A0 l0.length c0, .slice none 0 0] rfl (by (try simp only [List.map_toArray, List.map_cons, List.map_nil]); first | done | rfl | (simp only [List.length_drop, List.length_take]; rfl)) ?_; (refine (spec_l10Code.calls k _ _ l0 _ _ ([] : List Int) t341001 _ ?side1 ?side2 ?side3 ?side4 A2.out).mono ?_); (case side1 => repeat (first | exact HR0.out | (with_reducible refine Kd.C_alloc ?_ _) | (with_reducible refine Kd.C_drewN ?_ _) | (with_reducible refine Kd.C_drew ?_))); (case side2 => exact HC0.out); (case side3 => exact Kd.C_nil _ _); (case side4 => exact Nat.le_refl _); rintro e w5 ⟨rfl, hb⟩; refine ⟨_, rfl, ?_⟩; have n0_ := Aside0.mk (below_step (by repeat (first | (with_reducible first | exact HB.out | apply below_alloc | apply pw_below_drewN | apply below_drew1) | exact HB.out)) hb); clear HB; have HB := n0_; clear n0_; (try clear hb); (try clear hb2); (try clear hk); (try clear hi)) | ((with_reducible refine gate_callee (f := 115) rfl ?_); refine goesL_ (some 11) rfl rfl Try.func115 (by kernel_rfl) rfl #[.slice A0 l0.length c0] rfl (by (try simp only [List.map_toArray, List.map_cons, List.map_nil]); first | done | rfl | (simp only [List.length_drop, List.length_take]; rfl)) ?_; (with_reducible refine (spec_l10Polynomial.calls _ _ l0 t341002 _ ?side1 ?side2 A4.out).mono ?_); (case side1 => repeat (first | exact (Kd.C_below HR0.out HB.out) | (with_reducible refine Kd.C_alloc ?_ _) | (with_reducible refine Kd.C_drewN ?_ _) | (with_reducible refine Kd.C_drew ?_))); (case side2 => exact HC0.out); rintro e w6 ⟨v341003, rfl, ho0, hb⟩; refine ⟨_, rfl, ?_⟩; have n0_ := Aside0.mk (Kd.R_lower ho0 (below_size (by repeat (first | (with_reducible first | exact HB.out | apply below_alloc | apply pw_below_drewN | apply below_drew1) | exact HB.out)))); have n1_ := Aside0.mk (below_step (by repeat (first | (with_reducible first | exact HB.out | apply below_alloc | apply pw_below_drewN | apply below_drew1) | exact HB.out)) hb); clear HB; have HO341004 := n0_; have HB := n1_; clear n0_ n1_; (try clear hb); (try clear hb2); (try clear hk); (try clear hi); (try clear ho0)))
    go_ret2
    exact ⟨_, by first | rfl | (simp [errW_none, errW_some] <;> rfl) | (simp [*, errW_none, errW_some] <;> rfl), by (with_reducible repeat (first | apply Kd.R_alloc | apply Kd.R_drewN | apply Kd.R_drew)); exact HO341004.out, by repeat (first | (with_reducible first | exact HB.out | apply below_alloc | apply pw_below_drewN | apply below_drew1) | exact HB.out)⟩
  · rw [if_neg c3] at H
    have c3b0 : (t341001 == 0) = false := beq_eq_false_iff_ne.mpr c3
    have c3b1 : (t341001 != 0) = true := bne_iff_ne.mpr c3
    simp only [Option.some.injEq, Prod.mk.injEq] at H
    obtain ⟨rfl, rfl⟩ := H
    go_enter Try.func34, Try.ntmps34
    go_wp2_with (first | ((with_reducible refine gate_callee (f := 114) rfl ?_); refine goesL_ (some 6) rfl rfl Try.func114 (by kernel_rfl) rfl #[.slice A0 l0.length c0, .slice none 0 0] rfl (by (try simp only [List.map_toArray, List.map_cons, List.map_nil]); first | done | rfl | (simp only [List.length_drop, List.length_take]; rfl)) ?_; (refine (spec_l10Code.calls k _ _ l0 _ _ ([] : List Int) t341001 _ ?side1 ?side2 ?side3 ?side4 A2.out).mono ?_); (case side1 => repeat (first | exact HR0.out | (with_reducible refine Kd.C_alloc ?_ _) | (with_reducible refine Kd.C_drewN ?_ _) | (with_reducible refine Kd.C_drew ?_))); (case side2 => exact HC0.out); (case side3 => exact Kd.C_nil _ _); (case side4 => exact Nat.le_refl _); rintro e w7 ⟨rfl, hb⟩; refine ⟨_, rfl, ?_⟩; have n0_ := Aside0.mk (below_step (by repeat (first | (with_reducible first | exact HB.out | apply below_alloc | apply pw_below_drewN | apply below_drew1) | exact HB.out)) hb); clear HB; have HB := n0_; clear n0_; (try clear hb); (try clear hb2); (try clear hk); (try clear hi)))
    go_ret2
    exact ⟨_, by first | rfl | (simp [errW_none, errW_some] <;> rfl) | (simp [*, errW_none, errW_some] <;> rfl), by first | exact Kd.R_nil _ _ _ _ _ | exact Kd.N_nil _ _ _ _ _ | exact Kd.V_nil _ _ _ _ _ | exact Kd.Q_nil _ _ _ _ _ | exact Kd.S_nil _ _ _ _ _, by repeat (first | (with_reducible first | exact HB.out | apply below_alloc | apply pw_below_drewN | apply below_drew1) | exact HB.out)⟩
end Go.Proofs.Ytnlhhbnoccobmaa.F
end
section
namespace Go.Proofs.Ytnlhhbnoccobmaa.F
open Go.RowKit Go.Proofs.YtnlhhbnoccobmaaW.PrintWords Go.Proofs.YtnlhhbnoccobmaaW.PrintLast Go.Proofs.YtnlhhbnoccobmaaW.PrintMore
attribute [local go_sem] max2_int min2_int max_two min_two max_three min_three max_four min_four   
set_option linter.unusedVariables false
set_option linter.unusedSimpArgs false
def impl_ColouringPolynomial.f (k : Nat) (l0 : List Int) : Option (List Int × Int) := (impl_IsWord.f k l0).bind fun t => (if t = true then ((impl_colouring.f k l0).bind fun t2 => (some (t2, 0))) else (some ([], 1)))
theorem impl_ColouringPolynomial.mono : ∀ a0 k, LeO (impl_ColouringPolynomial.f k a0) (impl_ColouringPolynomial.f (k + 1) a0) := fun _ _ => LeO.bind (impl_IsWord.mono _ _) (fun _ => LeO.ite (LeO.bind (impl_colouring.mono _ _) fun _ => LeO.refl _) (LeO.refl _))
set_option maxHeartbeats 8000000 in
set_option maxRecDepth 100000 in
theorem changedWord_ColouringPolynomial.calls (k : Nat) (A0 : Option Addr) (c0 : Nat) (l0 : List Int) (r1 : List Int) (r2 : Int) (w : World) (hr0 : Kd.C (Kd.int .i64) w A0 l0.length l0) (hc0 : l0.length ≤ c0) (h : impl_ColouringPolynomial.f k l0 = some (r1, r2)) :
    Calls Try.prog 116 #[.slice A0 l0.length c0, .func (.func 117) #[] #[]] w fun e w' => ∃ v0_ : Value, e = .returned (.tuple #[v0_, .int .i64 r2]) ∧ Kd.R (Kd.int .i64) 2 w' w.heap.size (fun _ => True) v0_ r1 ∧ Below w.heap.size w w' := by
  have HR := Aside0.mk hr0
  have HC := Aside0.mk hc0
  clear hr0 hc0
  unfold impl_ColouringPolynomial.f at h
  obtain ⟨t, ht, h⟩ := Option.bind_eq_some_iff.1 h
  have HT := Aside0.mk ht
  clear ht
  cases t with
  | true =>
    rw [if_pos rfl] at h
    obtain ⟨t2, ht2, h⟩ := Option.bind_eq_some_iff.1 h
    have HG := Aside0.mk ht2
    simp only [Option.some.injEq, Prod.mk.injEq] at h
    obtain ⟨rfl, rfl⟩ := h
    clear ht2
    go_enter Try.func116, Try.ntmps116
    go_wp2_with (first
      | (go_at_call 120; refine (impl_IsWord.calls k A0 c0 l0 true _ HR.out HC.out HT.out).mono ?_; rintro e w1 ⟨rfl, hb1⟩; have HB1 := Aside0.mk hb1; clear hb1)
      | (go_at_call 117; refine (impl_colouring.calls k A0 c0 l0 t2 _ (Kd.C_below HR.out HB1.out) HC.out HG.out).mono ?_; rintro e w2 ⟨v0, rfl, ho2, hb2⟩; have HO2 := Aside0.mk ho2; have HB2 := Aside0.mk hb2; clear ho2 hb2))
    go_ret2
    exact ⟨_, rfl, Kd.R_lower HO2.out (below_size HB1.out), below_step HB1.out HB2.out⟩
  | false =>
    rw [if_neg (by simp)] at h
    simp only [Option.some.injEq, Prod.mk.injEq] at h
    obtain ⟨rfl, rfl⟩ := h
    go_enter Try.func116, Try.ntmps116
    go_wp2_with (first
      | (go_at_call 120; refine (impl_IsWord.calls k A0 c0 l0 false _ HR.out HC.out HT.out).mono ?_; rintro e w1 ⟨rfl, hb1⟩; have HB1 := Aside0.mk hb1; clear hb1))
    go_ret2
    exact ⟨_, rfl, Kd.R_nil _ _ _ _ _, HB1.out⟩
set_option maxHeartbeats 8000000 in
set_option maxRecDepth 100000 in
theorem impl_ColouringPolynomial.calls (k : Nat) (A0 : Option Addr) (c0 : Nat) (l0 : List Int) (r1 : List Int) (r2 : Int) (w : World) (hr0 : Kd.C (Kd.int .i64) w A0 l0.length l0) (hc0 : l0.length ≤ c0) (h : impl_ColouringPolynomial.f k l0 = some (r1, r2)) :
    Calls Try.prog 36 #[.slice A0 l0.length c0] w fun e w' => ∃ v0_ : Value, e = .returned (.tuple #[v0_, .int .i64 r2]) ∧ Kd.R (Kd.int .i64) 2 w' w.heap.size (fun _ => True) v0_ r1 ∧ Below w.heap.size w w' := by
  have HR := Aside0.mk hr0
  have HC := Aside0.mk hc0
  have HF := Aside0.mk h
  clear hr0 hc0 h
  go_enter Try.func36, Try.ntmps36
  go_wp2_with (first
    | (go_at_call 116; refine (changedWord_ColouringPolynomial.calls k A0 c0 l0 r1 r2 _ HR.out HC.out HF.out).mono ?_; rintro e w2 ⟨v0, rfl, ho2, hb2⟩; have HO2 := Aside0.mk ho2; have HB2 := Aside0.mk hb2; clear ho2 hb2))
  go_ret2
  exact ⟨_, rfl, HO2.out, HB2.out⟩
end Go.Proofs.Ytnlhhbnoccobmaa.F
end
section
namespace Go.Proofs.Ytnlhhbnoccobmaa.F
open Go.RowKit Go.Proofs.YtnlhhbnoccobmaaW.PrintWords Go.Proofs.YtnlhhbnoccobmaaW.PrintLast Go.Proofs.YtnlhhbnoccobmaaW.PrintMore
attribute [local go_sem] max2_int min2_int max_two min_two max_three min_three max_four min_four   
set_option linter.unusedVariables false
set_option linter.unusedSimpArgs false
def spec_l10Value.l0 : Nat → List Int → Int → Int → Int → Option (Int)
  | 0, _, _, _, _ => none
  | k + 1, x0, x1, x5, x6 => if x6 ≥ 0 then (if 0 ≤ x6 then (if x6 < (x0.length : Int) then (spec_l10Value.l0 k x0 x1 (wrap64 ((wrap64 (x5 * x1)) + (rd x0 x6))) (wrap64 (x6 - 1))) else (none)) else (none)) else (some x5)
def spec_l10Value.f (k : Nat) (l0 : List Int) (a1 : Int) : Option (Int) := spec_l10Value.l0 k l0 a1 0 (wrap64 ((l0.length : Int) - 1))
theorem spec_l10Value.mono_l : ∀ k, (∀ y0 y1 y2 y3, LeO (spec_l10Value.l0 k y0 y1 y2 y3) (spec_l10Value.l0 (k + 1) y0 y1 y2 y3))
  | 0 => fun _ _ _ _ r h => by simp [spec_l10Value.l0] at h
  | k + 1 => by
    have ih0 := spec_l10Value.mono_l k
    · intro y0 y1 y2 y3
      unfold spec_l10Value.l0
      repeat' first
      | (with_reducible exact ih0 _ _ _ _)
      | (with_reducible exact LeO.refl _)
      | (with_reducible exact LeO.none _)
      | (with_reducible refine LeO.ite ?_ ?_)
      | (with_reducible refine LeO.bind ?_ (fun _ => ?_))
      | exact ih0 _ _ _ _
      | exact LeO.none _
      | refine LeO.ite ?_ ?_
      | refine LeO.bind ?_ (fun _ => ?_)
theorem spec_l10Value.mono : ∀ a0 a1 k, LeO (spec_l10Value.f k a0 a1) (spec_l10Value.f (k + 1) a0 a1) := by
  intro a0 a1 k
  have ih0 := spec_l10Value.mono_l k
  unfold spec_l10Value.f
  repeat' first
      | (with_reducible exact ih0 _ _ _ _)
      | (with_reducible exact LeO.refl _)
      | (with_reducible exact LeO.none _)
      | (with_reducible refine LeO.ite ?_ ?_)
      | (with_reducible refine LeO.bind ?_ (fun _ => ?_))
      | exact ih0 _ _ _ _
      | exact LeO.none _
      | refine LeO.ite ?_ ?_
      | refine LeO.bind ?_ (fun _ => ?_)
set_option maxHeartbeats 8000000 in
set_option maxRecDepth 100000 in
theorem spec_l10Value.calls (k : Nat) (A0 : Option Addr) (c0 : Nat) (l0 : List Int) (a1 : Int) (r : Int) (w : World) (hr0 : Kd.C (Kd.int .i64) w A0 l0.length l0) (hc0 : l0.length ≤ c0) (h : spec_l10Value.f k l0 a1 = some r) :
    Calls Try.prog 119 #[.slice A0 l0.length c0, .int .i64 a1] w fun e w' => e = .returned (.int .i64 r) ∧ Drawn0 w w' := by
  have HR0 := Aside0.mk hr0
  have HC0 := Aside0.mk hc0
  clear hr0 hc0
  have H : (spec_l10Value.l0 k l0 a1 0 (wrap64 ((l0.length : Int) - 1))) = some r := h
  clear h
  have H' := Aside0.mk H
  clear H
  go_enter Try.func119, Try.ntmps119
  go_wp2
  go_loopg [5, 6] k (fun kq v5 v6 w' => ∃ (x5_1 : Int) (x6_1 : Int), v5 = .int .i64 x5_1 ∧ v6 = .int .i64 x6_1 ∧ Aside0 (spec_l10Value.l0 kq l0 a1 x5_1 x6_1 = some r) ∧ Aside0 (kq ≤ k) ∧ Drawn0 w w')
  case atStart => exact ⟨(0), (wrap64 ((l0.length : Int) - 1)), (by first | rfl | (simp; done) | (simp [*]; done)), (by first | rfl | (simp; done) | (simp [*]; done)), H', ⟨Nat.le_refl _⟩, by repeat (first | exact Drawn0.refl _ | apply Drawn0.step)⟩
  case round =>
    clear H'
    try clear c1
    try clear p2
    obtain ⟨x5_1, x6_1, rfl, rfl, HA, HK1, ⟨m1, rfl⟩⟩ := hrel
    cases gk with
    | zero => exact absurd HA.out (by simp [spec_l10Value.l0])
    | succ k1 =>
      have H := HA.out
      clear HA
      simp only [spec_l10Value.l0] at H
      by_cases c3 : x6_1 ≥ 0
      · rw [if_pos c3] at H
        have c3b0 : decide (0 ≤ x6_1) = true := decide_eq_true c3
        clear c3
        by_cases c4 : 0 ≤ x6_1
        · rw [if_pos c4] at H
          have c4b0 : decide (0 ≤ x6_1) = true := decide_eq_true c4
          clear c4
          by_cases c5 : x6_1 < (l0.length : Int)
          · rw [if_pos c5] at H
            have c5b0 : decide (x6_1 < (l0.length : Int)) = true := decide_eq_true c5
            clear c5
            have H' := Aside0.mk H
            clear H
            have p1191001 : 0 ≤ (x6_1 : Int) := of_decide_eq_true (by first | (with_reducible assumption) | assumption)
            have q1191001 : x6_1 < (l0.length : Int) := of_decide_eq_true (by first | (with_reducible assumption) | assumption)
            obtain ⟨ad1191001, e1191001, hx1191001_0⟩ := Kd.at_int HR0.out x6_1 p1191001 q1191001
            cases e1191001
            replace p1191001 := eq_true p1191001
            replace q1191001 := eq_true q1191001
            go_wp2
            go_roundg k1
            case measure => have := HK1.out; omega
            case rel => exact ⟨(wrap64 ((wrap64 (x5_1 * a1)) + (rd l0 x6_1))), (wrap64 (x6_1 - 1)), (by first | rfl | (simp; done) | (simp [*]; done)), (by first | rfl | (simp; done) | (simp [*]; done)), H', ⟨by have := HK1.out; omega⟩, by repeat (first | exact Drawn0.refl _ | apply Drawn0.step)⟩
          · rw [if_neg c5] at H
            exact absurd H (by simp)
        · rw [if_neg c4] at H
          exact absurd H (by simp)
      · rw [if_neg c3] at H
        have c3b0 : decide (0 ≤ x6_1) = false := decide_eq_false c3
        clear c3
        obtain rfl := Option.some.inj H
        go_wp2
        go_ret
        exact ⟨by first | rfl | (simp; done) | (simp [*]; done), by repeat (first | exact Drawn0.refl _ | apply Drawn0.step)⟩
end Go.Proofs.Ytnlhhbnoccobmaa.F
end
section
namespace Go.Proofs.Ytnlhhbnoccobmaa.F
open Go.RowKit Go.Proofs.YtnlhhbnoccobmaaW.PrintWords Go.Proofs.YtnlhhbnoccobmaaW.PrintLast Go.Proofs.YtnlhhbnoccobmaaW.PrintMore
attribute [local go_sem] max2_int min2_int max_two min_two max_three min_three max_four min_four   
set_option linter.unusedVariables false
set_option linter.unusedSimpArgs false
def spec_CountColourings.f (k : Nat) (l0 : List Int) (a1 : Int) : Option (Int × Int) := (spec_l01Is.f k l0).bind fun t401001 => (if t401001 = true then ((spec_l01In.f a1 0 8).bind fun t401002 => (if t401002 = true then ((spec_l10Polynomial.f l0).bind fun t401003 => ((spec_l10Value.f k t401003 a1).bind fun t401006 => (some (t401006, 0)))) else (some (0, 2)))) else (some (0, 1)))
theorem spec_CountColourings.mono : ∀ a0 a1 k, LeO (spec_CountColourings.f k a0 a1) (spec_CountColourings.f (k + 1) a0 a1) := by
  intro a0 a1 k
  unfold spec_CountColourings.f
  repeat' first
      | (with_reducible exact spec_l01Is.mono _ _)
      | (with_reducible exact spec_l10Value.mono _ _ _)
      | (with_reducible exact LeO.refl _)
      | (with_reducible exact LeO.none _)
      | (with_reducible refine LeO.ite ?_ ?_)
      | (with_reducible refine LeO.bind ?_ (fun _ => ?_))
      | exact spec_l01Is.mono _ _
      | exact spec_l10Value.mono _ _ _
      | exact LeO.none _
      | refine LeO.ite ?_ ?_
      | refine LeO.bind ?_ (fun _ => ?_)
set_option maxHeartbeats 8000000 in
set_option maxRecDepth 100000 in
theorem spec_CountColourings.calls (k : Nat) (A0 : Option Addr) (c0 : Nat) (l0 : List Int) (a1 : Int) (r1 : Int) (r2 : Int) (w : World) (hr0 : Kd.C (Kd.int .i64) w A0 l0.length l0) (hc0 : l0.length ≤ c0) (h : spec_CountColourings.f k l0 a1 = some (r1, r2)) :
    Calls Try.prog 40 #[.slice A0 l0.length c0, .int .i64 a1] w fun e w' => e = .returned (.tuple #[.int .i64 r1, .int .i64 r2]) ∧ Below w.heap.size w w' := by
  have HR0 := Aside0.mk hr0
  have HC0 := Aside0.mk hc0
  clear hr0 hc0
  have HB := Aside0.mk (Below.refl w.heap.size w)
  have H : ((spec_l01Is.f k l0).bind fun t401001 => (if t401001 = true then ((spec_l01In.f a1 0 8).bind fun t401002 => (if t401002 = true then ((spec_l10Polynomial.f l0).bind fun t401003 => ((spec_l10Value.f k t401003 a1).bind fun t401006 => (some (t401006, 0)))) else (some (0, 2)))) else (some (0, 1)))) = some (r1, r2) := h
  clear h
  replace H := Option.bind_eq_some_iff.mp H
  obtain ⟨t401001, A30, H⟩ := H
  replace H : (if t401001 = true then ((spec_l01In.f a1 0 8).bind fun t401002 => (if t401002 = true then ((spec_l10Polynomial.f l0).bind fun t401003 => ((spec_l10Value.f k t401003 a1).bind fun t401006 => (some (t401006, 0)))) else (some (0, 2)))) else (some (0, 1))) = some (r1, r2) := H
  have A3 := Aside0.mk A30
  clear A30
  by_cases c4 : t401001 = true
  · subst c4
    have H1 : ((spec_l01In.f a1 0 8).bind fun t401002 => (if t401002 = true then ((spec_l10Polynomial.f l0).bind fun t401003 => ((spec_l10Value.f k t401003 a1).bind fun t401006 => (some (t401006, 0)))) else (some (0, 2)))) = some (r1, r2) := by rw [if_pos rfl] at H; exact H
    clear H
    have H := H1
    clear H1
    replace H := Option.bind_eq_some_iff.mp H
    obtain ⟨t401002, A50, H⟩ := H
    replace H : (if t401002 = true then ((spec_l10Polynomial.f l0).bind fun t401003 => ((spec_l10Value.f k t401003 a1).bind fun t401006 => (some (t401006, 0)))) else (some (0, 2))) = some (r1, r2) := H
    have A5 := Aside0.mk A50
    clear A50
    by_cases c6 : t401002 = true
    · subst c6
      have H1 : ((spec_l10Polynomial.f l0).bind fun t401003 => ((spec_l10Value.f k t401003 a1).bind fun t401006 => (some (t401006, 0)))) = some (r1, r2) := by rw [if_pos rfl] at H; exact H
      clear H
      have H := H1
      clear H1
      replace H := Option.bind_eq_some_iff.mp H
      obtain ⟨t401003, A70, H⟩ := H
      replace H : ((spec_l10Value.f k t401003 a1).bind fun t401006 => (some (t401006, 0))) = some (r1, r2) := H
      have A7 := Aside0.mk A70
      clear A70
      replace H := Option.bind_eq_some_iff.mp H
      obtain ⟨t401006, A80, H⟩ := H
      replace H : (some (t401006, 0)) = some (r1, r2) := H
      have A8 := Aside0.mk A80
      clear A80
      simp only [Option.some.injEq, Prod.mk.injEq] at H
      obtain ⟨rfl, rfl⟩ := H
      go_enter Try.func40, Try.ntmps40
      go_wp2_with (first | ((with_reducible refine gate_callee (f := 118) rfl ?_); refine goesL_ (some 8) rfl rfl Try.func118 (by kernel_rfl) rfl #[.slice A0 l0.length c0] rfl (by (try simp only [List.map_toArray, List.map_cons, List.map_nil]); first | done | rfl | (simp only [List.length_drop, List.length_take]; rfl)) ?_; (with_reducible refine (spec_l01Is.calls k _ _ l0 true _ ?side1 ?side2 A3.out).mono ?_); (case side1 => repeat (first | exact HR0.out | (with_reducible refine Kd.C_alloc ?_ _) | (with_reducible refine Kd.C_drewN ?_ _) | (with_reducible refine Kd.C_drew ?_))); (case side2 => exact HC0.out); rintro e w9 ⟨rfl, hb⟩; refine ⟨_, rfl, ?_⟩; have n0_ := Aside0.mk (below_step (by repeat (first | (with_reducible first | exact HB.out | apply below_alloc | apply pw_below_drewN | apply below_drew1) | exact HB.out)) hb); clear HB; have HB := n0_; clear n0_; (try clear hb); (try clear hb2); (try clear hk); (try clear hi)) | ((with_reducible refine gate_callee (f := 109) rfl ?_); refine goesL_ (some 12) rfl rfl Try.func109 (by kernel_rfl) rfl #[.int .i64 a1, .int .i64 0, .int .i64 8] rfl (by (try simp only [List.map_toArray, List.map_cons, List.map_nil]); first | done | rfl | (simp only [List.length_drop, List.length_take]; rfl)) ?_; (with_reducible refine (spec_l01In.calls a1 0 8 true _ A5.out).mono ?_); rintro e w' ⟨rfl, ⟨nd, rfl⟩⟩; refine ⟨_, rfl, ?_⟩) | ((with_reducible refine gate_callee (f := 115) rfl ?_); refine goesL_ (some 15) rfl rfl Try.func115 (by kernel_rfl) rfl #[.slice A0 l0.length c0] rfl (by (try simp only [List.map_toArray, List.map_cons, List.map_nil]); first | done | rfl | (simp only [List.length_drop, List.length_take]; rfl)) ?_; (with_reducible refine (spec_l10Polynomial.calls _ _ l0 t401003 _ ?side1 ?side2 A7.out).mono ?_); (case side1 => repeat (first | exact (Kd.C_below HR0.out (by repeat (first | (with_reducible first | exact HB.out | apply below_alloc | apply pw_below_drewN | apply below_drew1) | exact HB.out))) | (with_reducible refine Kd.C_alloc ?_ _) | (with_reducible refine Kd.C_drewN ?_ _) | (with_reducible refine Kd.C_drew ?_))); (case side2 => exact HC0.out); rintro e w10 ⟨v401004, rfl, ho0, hb⟩; refine ⟨_, rfl, ?_⟩; have n0_ := Aside0.mk (Kd.R_lower ho0 (below_size (by repeat (first | (with_reducible first | exact HB.out | apply below_alloc | apply pw_below_drewN | apply below_drew1) | exact HB.out)))); have n1_ := Aside0.mk (below_step (by repeat (first | (with_reducible first | exact HB.out | apply below_alloc | apply pw_below_drewN | apply below_drew1) | exact HB.out)) hb); clear HB; have HO401005 := n0_; have HB := n1_; clear n0_ n1_; (try clear hb); (try clear hb2); (try clear hk); (try clear hi); (try clear ho0); obtain ⟨Ao11, co11, eo11⟩ := Kd.R_slice HO401005.out; subst eo11) | ((with_reducible refine gate_callee (f := 119) rfl ?_); refine goesL_ (some 17) rfl rfl Try.func119 (by kernel_rfl) rfl #[.slice Ao11 t401003.length co11, .int .i64 a1] rfl (by (try simp only [List.map_toArray, List.map_cons, List.map_nil]); first | done | rfl | (simp only [List.length_drop, List.length_take]; rfl)) ?_; (with_reducible refine (spec_l10Value.calls k _ _ t401003 a1 t401006 _ ?side1 ?side2 A8.out).mono ?_); (case side1 => repeat (first | exact (Kd.R_reads' HO401005.out).2.2 | (with_reducible refine Kd.C_alloc ?_ _) | (with_reducible refine Kd.C_drewN ?_ _) | (with_reducible refine Kd.C_drew ?_))); (case side2 => exact (Kd.R_reads' HO401005.out).2.1); rintro e w' ⟨rfl, ⟨nd, rfl⟩⟩; refine ⟨_, rfl, ?_⟩))
      go_ret2
      exact ⟨by first | rfl | (simp [errW_none, errW_some] <;> rfl) | (simp [*, errW_none, errW_some] <;> rfl), by repeat (first | (with_reducible first | exact HB.out | apply below_alloc | apply pw_below_drewN | apply below_drew1) | exact HB.out)⟩
    · replace c6 := Bool.eq_false_iff.mpr c6
      subst c6
      have H1 : (some (0, 2)) = some (r1, r2) := by rw [if_neg (show ¬ (false = true) by decide)] at H; exact H
      clear H
      have H := H1
      clear H1
      simp only [Option.some.injEq, Prod.mk.injEq] at H
      obtain ⟨rfl, rfl⟩ := H
      go_enter Try.func40, Try.ntmps40
      go_wp2_with (first | ((with_reducible refine gate_callee (f := 118) rfl ?_); refine goesL_ (some 8) rfl rfl Try.func118 (by kernel_rfl) rfl #[.slice A0 l0.length c0] rfl (by (try simp only [List.map_toArray, List.map_cons, List.map_nil]); first | done | rfl | (simp only [List.length_drop, List.length_take]; rfl)) ?_; (with_reducible refine (spec_l01Is.calls k _ _ l0 true _ ?side1 ?side2 A3.out).mono ?_); (case side1 => repeat (first | exact HR0.out | (with_reducible refine Kd.C_alloc ?_ _) | (with_reducible refine Kd.C_drewN ?_ _) | (with_reducible refine Kd.C_drew ?_))); (case side2 => exact HC0.out); rintro e w12 ⟨rfl, hb⟩; refine ⟨_, rfl, ?_⟩; have n0_ := Aside0.mk (below_step (by repeat (first | (with_reducible first | exact HB.out | apply below_alloc | apply pw_below_drewN | apply below_drew1) | exact HB.out)) hb); clear HB; have HB := n0_; clear n0_; (try clear hb); (try clear hb2); (try clear hk); (try clear hi)) | ((with_reducible refine gate_callee (f := 109) rfl ?_); refine goesL_ (some 12) rfl rfl Try.func109 (by kernel_rfl) rfl #[.int .i64 a1, .int .i64 0, .int .i64 8] rfl (by (try simp only [List.map_toArray, List.map_cons, List.map_nil]); first | done | rfl | (simp only [List.length_drop, List.length_take]; rfl)) ?_; (with_reducible refine (spec_l01In.calls a1 0 8 false _ A5.out).mono ?_); rintro e w' ⟨rfl, ⟨nd, rfl⟩⟩; refine ⟨_, rfl, ?_⟩))
      go_ret2
      exact ⟨by first | rfl | (simp [errW_none, errW_some] <;> rfl) | (simp [*, errW_none, errW_some] <;> rfl), by repeat (first | (with_reducible first | exact HB.out | apply below_alloc | apply pw_below_drewN | apply below_drew1) | exact HB.out)⟩
  · replace c4 := Bool.eq_false_iff.mpr c4
    subst c4
    have H1 : (some (0, 1)) = some (r1, r2) := by rw [if_neg (show ¬ (false = true) by decide)] at H; exact H
    clear H
    have H := H1
    clear H1
    simp only [Option.some.injEq, Prod.mk.injEq] at H
    obtain ⟨rfl, rfl⟩ := H
    go_enter Try.func40, Try.ntmps40
    go_wp2_with (first | ((with_reducible refine gate_callee (f := 118) rfl ?_); refine goesL_ (some 8) rfl rfl Try.func118 (by kernel_rfl) rfl #[.slice A0 l0.length c0] rfl (by (try simp only [List.map_toArray, List.map_cons, List.map_nil]); first | done | rfl | (simp only [List.length_drop, List.length_take]; rfl)) ?_; (with_reducible refine (spec_l01Is.calls k _ _ l0 false _ ?side1 ?side2 A3.out).mono ?_); (case side1 => repeat (first | exact HR0.out | (with_reducible refine Kd.C_alloc ?_ _) | (with_reducible refine Kd.C_drewN ?_ _) | (with_reducible refine Kd.C_drew ?_))); (case side2 => exact HC0.out); rintro e w13 ⟨rfl, hb⟩; refine ⟨_, rfl, ?_⟩; have n0_ := Aside0.mk (below_step (by repeat (first | (with_reducible first | exact HB.out | apply below_alloc | apply pw_below_drewN | apply below_drew1) | exact HB.out)) hb); clear HB; have HB := n0_; clear n0_; (try clear hb); (try clear hb2); (try clear hk); (try clear hi)))
    go_ret2
    exact ⟨by first | rfl | (simp [errW_none, errW_some] <;> rfl) | (simp [*, errW_none, errW_some] <;> rfl), by repeat (first | (with_reducible first | exact HB.out | apply below_alloc | apply pw_below_drewN | apply below_drew1) | exact HB.out)⟩
end Go.Proofs.Ytnlhhbnoccobmaa.F
end
section
namespace Go.Proofs.Ytnlhhbnoccobmaa.F
open Go.RowKit Go.Proofs.YtnlhhbnoccobmaaW.PrintWords Go.Proofs.YtnlhhbnoccobmaaW.PrintLast Go.Proofs.YtnlhhbnoccobmaaW.PrintMore
attribute [local go_sem] max2_int min2_int max_two min_two max_three min_three max_four min_four   
set_option linter.unusedVariables false
set_option linter.unusedSimpArgs false
open Go.Proofs.Ytnlhhbnoccobmaa.Mem Go.Shelf
attribute [local go_sem] Oper.semAt_some
def backTo (zs : List Int) : Nat → List (Nat × Int)
  | 0 => []
  | d + 1 => backTo zs d ++ [(zs.length - 1 - d, zs.getD (zs.length - 1 - d) 0)]
theorem backTo_len (zs : List Int) : ∀ d, (backTo zs d).length = d
  | 0 => rfl
  | d + 1 => by rw [backTo, List.length_append, backTo_len zs d]; rfl
def valS (x : Int) (pre : List (Nat × Int)) : Int := pre.foldl (fun s p => wrap64 (wrap64 (s * x) + p.2)) 0
theorem valS_snoc (x : Int) (pre : List (Nat × Int)) (p : Nat × Int) : valS x (pre ++ [p]) = wrap64 (wrap64 (valS x pre * x) + p.2) := by simp [valS]
def Kept_ (n₀ Bs : Nat) (W W' : World) : Prop := Below n₀ W W' ∧ W'.heap[Bs]? = W.heap[Bs]?
theorem keptB {n₀ Bs : Nat} {w : World} (hn : n₀ ≤ w.heap.size) (hB : Bs < w.heap.size) (W : World) (l : Nat) (o o' : Obj) (hl : w.heap.size ≤ l) (h : W.heap[l]? = some o) (h1 : o.isCells = false) (h2 : o.isWalk = false) : Kept_ n₀ Bs W (W.putObj l o') :=
  ⟨belowK_b hn W l o o' hl h h1 h2, World.putObj_heap_other (by omega)⟩
set_option maxRecDepth 100000 in
set_option maxHeartbeats 4000000 in
theorem back1_in (F : Fence) (n : Nat) (hF : F.fn 222) (hro : F.round = none) (hn : 1 ≤ n) (l Bs : Nat) (w : World) (A : Option Addr) (len cap : Nat) (zs : List Int) (hlen : len = zs.length) (hreach : len ≤ 17592186044416) (hC : Kd.C (Kd.int .i64) w A len zs) (J Jx : List (Nat × Int) → World → Prop)
    (hY : ∀ pre x W, J pre W → pre.length < len → YieldAt F (n - 1) Try.prog l #[.int .i64 ((x.1 : Nat) : Int), .int .i64 x.2] W fun e W' =>
      (e = .returned (.bool true) ∧ J (pre ++ [x]) W' ∧ Kept_ w.heap.size Bs W W') ∨ (e = .returned (.bool false) ∧ Jx (pre ++ [x]) W'))
    (W : World) (hW : Below w.heap.size w W) (hBs : Boxed W Bs 22 (.slice A len cap)) (h0 : J [] W) :
    CallsIn F n Try.prog 222 #[.func (.yield l) #[] #[], .pointer (some ⟨Bs, 0, none⟩)] W fun e W' => (∃ v, e = .returned v) ∧
      ((∃ ys, ys = backTo zs len ∧ J ys W') ∨ (∃ pre, True ∧ Jx pre W')) := by
  have HC := Aside0.mk hC
  have HLEN := Aside0.mk hlen
  have hb := hBs.cell
  have HBX := Aside0.mk hBs
  have HW := Aside0.mk hW
  have HY := Aside0.mk hY
  have e0 : wrap64 ((len : Int) - 1) = (len : Int) - 1 := by unfold wrap64; omega
  clear hC hlen hBs hW hY
  refine callsIn_of_wp Try.func222 rfl hF ?_ hro
  simp only [Try.ntmps222, List.size_toArray, List.length_cons, List.length_nil, Nat.reduceAdd, Nat.reduceSub, Array.replicate_succ, Array.replicate_zero, List.push_toArray, List.append_toArray, List.nil_append, List.cons_append]
  gi_wp2
  gi_loopw [3] (fun i wr => ∃ d k : Nat, d + k = len ∧ i = .int .i64 ((k : Int) - 1) ∧ J (backTo zs d) wr ∧ Aside0 (Kept_ w.heap.size Bs W wr))
    (fun i _ => (intOf i + 1).toNat)
  case atStart => exact ⟨0, len, by omega, by simp [e0], h0, ⟨⟨Below.refl _ _, rfl⟩⟩⟩
  case round =>
    obtain ⟨d, k, hk, rfl, hJs, HK⟩ := hrel
    have hb2 : wr.cell? ⟨Bs, 0, none⟩ = some (.slice A len cap) := (show Boxed wr Bs _ _ from HK.out.2.trans HBX.out).cell
    cases k with
    | zero =>
      have e : (((0 : Nat) : Int) - 1) = -1 := rfl
      rw [e]
      obtain rfl : d = len := by omega
      gi_wp2
      go_end0
      exact ⟨⟨_, rfl⟩, .inl ⟨_, rfl, hJs⟩⟩
    | succ k' =>
      have e : (((k' + 1 : Nat) : Int) - 1) = (k' : Int) := by omega
      rw [e]
      obtain ⟨ad, rfl, hc⟩ := cell_of_C (Kd.C_below HC.out (HW.out.trans HK.out.1)) k' (by omega)
      have e1 : wrap64 ((k' : Int) - 1) = (k' : Int) - 1 := by unfold wrap64; omega
      have hcm : backTo zs (d + 1) = backTo zs d ++ [(k', zs[k']?.getD 0)] := by
        rw [backTo, show zs.length - 1 - d = k' from by have := HLEN.out; omega, List.getD_eq_getElem?_getD]
      have HCM := Aside0.mk hcm
      clear hcm
      obtain ⟨fn, tmps, assign, body, hy, hR⟩ := HY.out _ (k', zs[k']?.getD 0) wr hJs (by rw [backTo_len]; omega)
      dsimp only at hy
      gi_wp2
      refine hR.mono ?_
      rintro e W3 (⟨rfl, hJ3, hk3⟩ | ⟨rfl, hJx3⟩)
      · gi_wp2
        go_roundw
        case rel => exact ⟨d + 1, k', by omega, (by first | rfl | simp [e1]), by rw [HCM.out]; exact hJ3, ⟨⟨HK.out.1.trans hk3.1, hk3.2.trans HK.out.2⟩⟩⟩
        case measure => simp [intOf]
      · gi_wp2
        refine bodyPost_ret (results_none rfl _ _ _) rfl ?_
        exact ⟨⟨_, rfl⟩, .inr ⟨_, trivial, hJx3⟩⟩
set_option maxHeartbeats 2000000 in
theorem back_in (F : Fence) (n : Nat) (hF : F.fn 181) (hro : F.round = none) (a : Option Addr) (len cap : Nat) (w : World) :
    CallsIn F n Try.prog 181 #[.slice a len cap] w fun e w' => e = .returned (.func (.func 222) #[] #[.pointer (some ⟨w.heap.size, 0, none⟩)]) ∧ w' = w.alloc (.cells #[.slice a len cap] 22) := by
  refine callsIn_of_wp Try.func181 rfl hF ?_ hro
  simp only [Try.ntmps181, List.size_toArray, List.length_cons, List.length_nil, Nat.reduceAdd, Nat.reduceSub, Array.replicate_succ, Array.replicate_zero, List.push_toArray, List.append_toArray, List.nil_append, List.cons_append]
  gi_wp2
  go_ret
  exact ⟨rfl, rfl⟩
def impl_valueAt.f (l0 : List Int) (a1 : Int) : Option Int := if l0.length ≤ 17592186044416 then some (valS a1 (backTo l0 l0.length)) else none
set_option maxHeartbeats 4000000 in
set_option maxRecDepth 100000 in
theorem impl_valueAt.calls (A0 : Option Addr) (c0 : Nat) (l0 : List Int) (a1 : Int) (r : Int) (w : World) (hr0 : Kd.C (Kd.int .i64) w A0 l0.length l0) (hc0 : l0.length ≤ c0) (h : impl_valueAt.f l0 a1 = some r) :
    Calls Try.prog 121 #[.slice A0 l0.length c0, .int .i64 a1] w fun e w' => e = .returned (.int .i64 r) ∧ Below w.heap.size w w' := by
  unfold impl_valueAt.f at h
  by_cases hk : l0.length ≤ 17592186044416
  · rw [if_pos hk] at h
    have hr : r = valS a1 (backTo l0 l0.length) := (Option.some.inj h).symm
    subst hr
    refine (callsIn_wide (n := 3)).1 ?_
    refine callsIn_of_wp_marks Try.func121 rfl trivial ?_ rfl
    simp only [Try.ntmps121, List.size_toArray, List.length_cons, List.length_nil, Nat.reduceAdd, Nat.reduceSub, Array.replicate_succ, Array.replicate_zero, List.push_toArray, List.append_toArray, List.nil_append, List.cons_append]
    gi_wp2_with (first
      | (refine ⟨trivial, ?_⟩; gi_at_call 181; refine (back_in Fence.wide 2 trivial rfl _ _ _ _).mono ?_; rintro e w' ⟨rfl, rfl⟩)
      | (gi_at_call 181; refine (back_in Fence.wide 2 trivial rfl _ _ _ _).mono ?_; rintro e w' ⟨rfl, rfl⟩))
    have bX := ((Boxed.new w 2 (.int .i64 a1)).alloc (.cells #[.int .i64 0] 2)).alloc (.cells #[.slice A0 l0.length c0] 22)
    have bO := (Boxed.new (w.alloc (.cells #[.int .i64 a1] 2)) 2 (.int .i64 0)).alloc (.cells #[.slice A0 l0.length c0] 22)
    have bS := Boxed.new ((w.alloc (.cells #[.int .i64 a1] 2)).alloc (.cells #[.int .i64 0] 2)) 22 (.slice A0 l0.length c0)
    have hB0 : Below w.heap.size w (((w.alloc (.cells #[.int .i64 a1] 2)).alloc (.cells #[.int .i64 0] 2)).alloc (.cells #[.slice A0 l0.length c0] 22)) := below_alloc (below_alloc (below_alloc (Below.refl _ _) _) _) _
    rw [World.size_alloc] at bO bS
    rw [World.size_alloc] at bS
    have hsz : (((w.alloc (.cells #[.int .i64 a1] 2)).alloc (.cells #[.int .i64 0] 2)).alloc (.cells #[.slice A0 l0.length c0] 22)).heap.size = w.heap.size + 1 + 1 + 1 := by simp
    generalize hW1 : (((w.alloc (.cells #[.int .i64 a1] 2)).alloc (.cells #[.int .i64 0] 2)).alloc (.cells #[.slice A0 l0.length c0] 22)) = W1 at bX bO bS hB0 hsz ⊢
    have stops : SeqStopsK Fence.wide (3 - 1) Try.prog 222 #[.pointer (some ⟨w.heap.size + 1 + 1, 0, none⟩)] (fun x : Nat × Int => #[Value.int .i64 ((x.1 : Nat) : Int), Value.int .i64 x.2]) (Kept_ w.heap.size (w.heap.size + 1 + 1)) (fun ys => ys = backTo l0 l0.length) (fun _ => True) l0.length W1 := fun l J Jx W hW _ _ hY h0 =>
      back1_in Fence.wide 2 trivial rfl (by omega) l _ w A0 _ c0 l0 rfl hk hr0 J Jx hY W (hB0.trans (hW.mono (by omega))) ((hW.block _ bS.lt).trans bS) h0
    have ne_of : ∀ {A : World} {B : Nat} {t : TypeId} {v : Value} {row : Option Nat}, Boxed A B t v → (∀ r, row = some r → ∃ o : Obj, A.heap[r]? = some o ∧ o.isCells = false) → some B ≠ row := fun {A B t v row} hb hr e => by
      obtain ⟨o, ho, hc⟩ := hr _ e.symm
      rw [show A.heap[B]? = _ from hb] at ho
      cases ho; cases hc
    refine wpIn_rangeFunc_ownG rfl (by omega) (gf := 222) (lb := #[.pointer (some ⟨w.heap.size + 1 + 1, 0, none⟩)]) rfl trivial (enters_of Try.func222 (by kernel_rfl) rfl)
      stops (fun h k => ⟨h.1.trans k.1, k.2.trans h.2⟩) (keptB (by omega) bS.lt) (Below.refl _ _) (fun _ => rfl)
      (fun pre W => (Boxed W (w.heap.size + 1) 2 (.int .i64 (valS a1 pre)) ∧ Boxed W w.heap.size 2 (.int .i64 a1) ∧ Boxed W (w.heap.size + 1 + 1) 22 (.slice A0 l0.length c0)) ∧ Below w.heap.size w W)
      (fun _ _ _ => False)
      (OwnFrom.and (Own.from (fun s A B row hs hg hr => ⟨hs.1.kept hg (ne_of hs.1 hr), hs.2.1.kept hg (ne_of hs.2.1 hr), hs.2.2.kept hg (ne_of hs.2.2 hr)⟩) _) (ownFrom_below (Nat.le_refl _) (by omega)))
      (fun _ _ _ _ _ hs _ _ => hs)
      ⟨⟨bO, bX, bS⟩, hB0⟩
      (fun x => { tmps := #[.slice A0 l0.length c0, .int .i64 a1, undef, .pointer (some ⟨w.heap.size, 0, none⟩), .int .i64 0, .pointer (some ⟨w.heap.size + 1, 0, none⟩), undef, .int .i64 x.2, .slice A0 l0.length c0, .func (.func 222) #[] #[.pointer (some ⟨w.heap.size + 1 + 1, 0, none⟩)], .int .i64 ((x.1 : Nat) : Int), .int .i64 x.2, undef, undef, undef, undef, undef, undef], defers := [] }) ?assign ?body ?done ?stop
    case assign =>
      intro l x W K hK
      gi_wp2
      exact hK
    case body =>
      rintro l pre x W ⟨⟨hO, hX, hS⟩, hB⟩ _
      have hc := hO.cell
      have hf := hO.frozen
      have hcx := hX.cell
      have HO := Aside0.mk hO
      have HX := Aside0.mk hX
      have HS := Aside0.mk hS
      have HB := Aside0.mk hB
      clear hO hX hS hB
      gi_wp2
      have hg : W.grownBy (W.setCell ⟨w.heap.size + 1, 0, none⟩ (.int .i64 (wrap64 (wrap64 (valS a1 pre * a1) + x.2)))) (some (w.heap.size + 1)) := grown_set (grown_refl W _) 0 _
      exact ⟨(KeepsOthers.setCell _ _ _).from _, ⟨(Below.refl w.heap.size W).setCell (p := ⟨w.heap.size + 1, 0, none⟩) (Nat.le_succ _) _, hg.block _ HS.out.lt (by simp)⟩, ⟨by rw [valS_snoc]; exact HO.out.set _, HX.out.kept hg (by simp), HS.out.kept hg (by simp)⟩, HB.out.setCell (p := ⟨w.heap.size + 1, 0, none⟩) (Nat.le_succ _) _⟩
    case done =>
      rintro D ys W hD rfl ⟨⟨hO, _, _⟩, hB⟩ hK
      have hc := hO.cell
      have HB := Aside0.mk hB
      clear hO hB
      gi_wp2
      refine ⟨by simp, .inl ⟨_, _, rfl, run_takeDeferred hK, ?_⟩⟩
      exact ⟨_, results_tmp rfl _ _ _, rfl, HB.out.trans (belowK_b (w := w) (Nat.le_refl _) W D _ _ (by omega) hK rfl rfl)⟩
    case stop =>
      rintro D c pre W _ _ h _
      exact h.elim
  · rw [if_neg hk] at h; exact absurd h (by simp)
end Go.Proofs.Ytnlhhbnoccobmaa.F
end
section
namespace Go.Proofs.Ytnlhhbnoccobmaa.F
open Go.RowKit Go.Proofs.YtnlhhbnoccobmaaW.PrintWords Go.Proofs.YtnlhhbnoccobmaaW.PrintLast Go.Proofs.YtnlhhbnoccobmaaW.PrintMore
attribute [local go_sem] max2_int min2_int max_two min_two max_three min_three max_four min_four   
set_option linter.unusedVariables false
set_option linter.unusedSimpArgs false
def impl_CountColourings.f (k : Nat) (l0 : List Int) (a1 : Int) : Option (Int × Int) := (impl_IsWord.f k l0).bind fun t411001 => (if t411001 = true then ((impl_in.f a1 0 8).bind fun t411002 => (if t411002 = true then ((impl_colouring.f k l0).bind fun t411003 => ((impl_valueAt.f t411003 a1).bind fun t411006 => (some (t411006, 0)))) else (some (0, 2)))) else (some (0, 1)))
theorem impl_CountColourings.mono : ∀ a0 a1 k, LeO (impl_CountColourings.f k a0 a1) (impl_CountColourings.f (k + 1) a0 a1) := by
  intro a0 a1 k
  unfold impl_CountColourings.f
  repeat' first
      | (with_reducible exact impl_IsWord.mono _ _)
      | (with_reducible exact impl_colouring.mono _ _)
      | (with_reducible exact LeO.refl _)
      | (with_reducible exact LeO.none _)
      | (with_reducible refine LeO.ite ?_ ?_)
      | (with_reducible refine LeO.bind ?_ (fun _ => ?_))
      | exact impl_IsWord.mono _ _
      | exact impl_colouring.mono _ _
      | exact LeO.none _
      | refine LeO.ite ?_ ?_
      | refine LeO.bind ?_ (fun _ => ?_)
set_option maxHeartbeats 8000000 in
set_option maxRecDepth 100000 in
theorem impl_CountColourings.calls (k : Nat) (A0 : Option Addr) (c0 : Nat) (l0 : List Int) (a1 : Int) (r1 : Int) (r2 : Int) (w : World) (hr0 : Kd.C (Kd.int .i64) w A0 l0.length l0) (hc0 : l0.length ≤ c0) (h : impl_CountColourings.f k l0 a1 = some (r1, r2)) :
    Calls Try.prog 41 #[.slice A0 l0.length c0, .int .i64 a1] w fun e w' => e = .returned (.tuple #[.int .i64 r1, .int .i64 r2]) ∧ Below w.heap.size w w' := by
  have HR0 := Aside0.mk hr0
  have HC0 := Aside0.mk hc0
  clear hr0 hc0
  have HB := Aside0.mk (Below.refl w.heap.size w)
  have H : ((impl_IsWord.f k l0).bind fun t411001 => (if t411001 = true then ((impl_in.f a1 0 8).bind fun t411002 => (if t411002 = true then ((impl_colouring.f k l0).bind fun t411003 => ((impl_valueAt.f t411003 a1).bind fun t411006 => (some (t411006, 0)))) else (some (0, 2)))) else (some (0, 1)))) = some (r1, r2) := h
  clear h
  replace H := Option.bind_eq_some_iff.mp H
  obtain ⟨t411001, A30, H⟩ := H
  replace H : (if t411001 = true then ((impl_in.f a1 0 8).bind fun t411002 => (if t411002 = true then ((impl_colouring.f k l0).bind fun t411003 => ((impl_valueAt.f t411003 a1).bind fun t411006 => (some (t411006, 0)))) else (some (0, 2)))) else (some (0, 1))) = some (r1, r2) := H
  have A3 := Aside0.mk A30
  clear A30
  by_cases c4 : t411001 = true
  · subst c4
    have H1 : ((impl_in.f a1 0 8).bind fun t411002 => (if t411002 = true then ((impl_colouring.f k l0).bind fun t411003 => ((impl_valueAt.f t411003 a1).bind fun t411006 => (some (t411006, 0)))) else (some (0, 2)))) = some (r1, r2) := by rw [if_pos rfl] at H; exact H
    clear H
    have H := H1
    clear H1
    replace H := Option.bind_eq_some_iff.mp H
    obtain ⟨t411002, A50, H⟩ := H
    replace H : (if t411002 = true then ((impl_colouring.f k l0).bind fun t411003 => ((impl_valueAt.f t411003 a1).bind fun t411006 => (some (t411006, 0)))) else (some (0, 2))) = some (r1, r2) := H
    have A5 := Aside0.mk A50
    clear A50
    by_cases c6 : t411002 = true
    · subst c6
      have H1 : ((impl_colouring.f k l0).bind fun t411003 => ((impl_valueAt.f t411003 a1).bind fun t411006 => (some (t411006, 0)))) = some (r1, r2) := by rw [if_pos rfl] at H; exact H
      clear H
      have H := H1
      clear H1
      replace H := Option.bind_eq_some_iff.mp H
      obtain ⟨t411003, A70, H⟩ := H
      replace H : ((impl_valueAt.f t411003 a1).bind fun t411006 => (some (t411006, 0))) = some (r1, r2) := H
      have A7 := Aside0.mk A70
      clear A70
      replace H := Option.bind_eq_some_iff.mp H
      obtain ⟨t411006, A80, H⟩ := H
      replace H : (some (t411006, 0)) = some (r1, r2) := H
      have A8 := Aside0.mk A80
      clear A80
      simp only [Option.some.injEq, Prod.mk.injEq] at H
      obtain ⟨rfl, rfl⟩ := H
      go_enter Try.func41, Try.ntmps41
      go_wp2_with (first | ((with_reducible refine gate_callee (f := 120) rfl ?_); refine goesL_ (some 8) rfl rfl Try.func120 (by kernel_rfl) rfl #[.slice A0 l0.length c0] rfl (by (try simp only [List.map_toArray, List.map_cons, List.map_nil]); first | done | rfl | (simp only [List.length_drop, List.length_take]; rfl)) ?_; (with_reducible refine (impl_IsWord.calls k _ _ l0 true _ ?side1 ?side2 A3.out).mono ?_); (case side1 => repeat (first | exact HR0.out | (with_reducible refine Kd.C_alloc ?_ _) | (with_reducible refine Kd.C_drewN ?_ _) | (with_reducible refine Kd.C_drew ?_))); (case side2 => exact HC0.out); rintro e w9 ⟨rfl, hb⟩; refine ⟨_, rfl, ?_⟩; have n0_ := Aside0.mk (below_step (by repeat (first | (with_reducible first | exact HB.out | apply below_alloc | apply pw_below_drewN | apply below_drew1) | exact HB.out)) hb); clear HB; have HB := n0_; clear n0_; (try clear hb); (try clear hb2); (try clear hk); (try clear hi)) | ((with_reducible refine gate_callee (f := 97) rfl ?_); refine goesL_ (some 12) rfl rfl Try.func97 (by kernel_rfl) rfl #[.int .i64 a1, .int .i64 0, .int .i64 8] rfl (by (try simp only [List.map_toArray, List.map_cons, List.map_nil]); first | done | rfl | (simp only [List.length_drop, List.length_take]; rfl)) ?_; (with_reducible refine (impl_in.calls a1 0 8 true _ A5.out).mono ?_); rintro e w' ⟨rfl, ⟨nd, rfl⟩⟩; refine ⟨_, rfl, ?_⟩) | ((with_reducible refine gate_callee (f := 117) rfl ?_); refine goesL_ (some 15) rfl rfl Try.func117 (by kernel_rfl) rfl #[.slice A0 l0.length c0] rfl (by (try simp only [List.map_toArray, List.map_cons, List.map_nil]); first | done | rfl | (simp only [List.length_drop, List.length_take]; rfl)) ?_; (with_reducible refine (impl_colouring.calls k _ _ l0 t411003 _ ?side1 ?side2 A7.out).mono ?_); (case side1 => repeat (first | exact (Kd.C_below HR0.out (by repeat (first | (with_reducible first | exact HB.out | apply below_alloc | apply pw_below_drewN | apply below_drew1) | exact HB.out))) | (with_reducible refine Kd.C_alloc ?_ _) | (with_reducible refine Kd.C_drewN ?_ _) | (with_reducible refine Kd.C_drew ?_))); (case side2 => exact HC0.out); rintro e w10 ⟨v411004, rfl, ho0, hb⟩; refine ⟨_, rfl, ?_⟩; have n0_ := Aside0.mk (Kd.R_lower ho0 (below_size (by repeat (first | (with_reducible first | exact HB.out | apply below_alloc | apply pw_below_drewN | apply below_drew1) | exact HB.out)))); have n1_ := Aside0.mk (below_step (by repeat (first | (with_reducible first | exact HB.out | apply below_alloc | apply pw_below_drewN | apply below_drew1) | exact HB.out)) hb); clear HB; have HO411005 := n0_; have HB := n1_; clear n0_ n1_; (try clear hb); (try clear hb2); (try clear hk); (try clear hi); (try clear ho0); obtain ⟨Ao11, co11, eo11⟩ := Kd.R_slice HO411005.out; subst eo11) | ((with_reducible refine gate_callee (f := 121) rfl ?_); refine goesL_ (some 17) rfl rfl Try.func121 (by kernel_rfl) rfl #[.slice Ao11 t411003.length co11, .int .i64 a1] rfl (by (try simp only [List.map_toArray, List.map_cons, List.map_nil]); first | done | rfl | (simp only [List.length_drop, List.length_take]; rfl)) ?_; (with_reducible refine (impl_valueAt.calls _ _ t411003 a1 t411006 _ ?side1 ?side2 A8.out).mono ?_); (case side1 => repeat (first | exact (Kd.R_reads' HO411005.out).2.2 | (with_reducible refine Kd.C_alloc ?_ _) | (with_reducible refine Kd.C_drewN ?_ _) | (with_reducible refine Kd.C_drew ?_))); (case side2 => exact (Kd.R_reads' HO411005.out).2.1); rintro e w12 ⟨rfl, hb⟩; refine ⟨_, rfl, ?_⟩; have n0_ := Aside0.mk (Kd.R_below (by (with_reducible repeat (first | apply Kd.R_alloc | apply Kd.R_drewN | apply Kd.R_drew)); exact HO411005.out) hb); have n1_ := Aside0.mk (below_step (by repeat (first | (with_reducible first | exact HB.out | apply below_alloc | apply pw_below_drewN | apply below_drew1) | exact HB.out)) hb); clear HO411005; clear HB; have HO411005 := n0_; have HB := n1_; clear n0_ n1_; (try clear hb); (try clear hb2); (try clear hk); (try clear hi)))
      go_ret2
      exact ⟨by first | rfl | (simp [errW_none, errW_some] <;> rfl) | (simp [*, errW_none, errW_some] <;> rfl), by repeat (first | (with_reducible first | exact HB.out | apply below_alloc | apply pw_below_drewN | apply below_drew1) | exact HB.out)⟩
    · replace c6 := Bool.eq_false_iff.mpr c6
      subst c6
      have H1 : (some (0, 2)) = some (r1, r2) := by rw [if_neg (show ¬ (false = true) by decide)] at H; exact H
      clear H
      have H := H1
      clear H1
      simp only [Option.some.injEq, Prod.mk.injEq] at H
      obtain ⟨rfl, rfl⟩ := H
      go_enter Try.func41, Try.ntmps41
      go_wp2_with (first | ((with_reducible refine gate_callee (f := 120) rfl ?_); refine goesL_ (some 8) rfl rfl Try.func120 (by kernel_rfl) rfl #[.slice A0 l0.length c0] rfl (by (try simp only [List.map_toArray, List.map_cons, List.map_nil]); first | done | rfl | (simp only [List.length_drop, List.length_take]; rfl)) ?_; (with_reducible refine (impl_IsWord.calls k _ _ l0 true _ ?side1 ?side2 A3.out).mono ?_); (case side1 => repeat (first | exact HR0.out | (with_reducible refine Kd.C_alloc ?_ _) | (with_reducible refine Kd.C_drewN ?_ _) | (with_reducible refine Kd.C_drew ?_))); (case side2 => exact HC0.out); rintro e w13 ⟨rfl, hb⟩; refine ⟨_, rfl, ?_⟩; have n0_ := Aside0.mk (below_step (by repeat (first | (with_reducible first | exact HB.out | apply below_alloc | apply pw_below_drewN | apply below_drew1) | exact HB.out)) hb); clear HB; have HB := n0_; clear n0_; (try clear hb); (try clear hb2); (try clear hk); (try clear hi)) | ((with_reducible refine gate_callee (f := 97) rfl ?_); refine goesL_ (some 12) rfl rfl Try.func97 (by kernel_rfl) rfl #[.int .i64 a1, .int .i64 0, .int .i64 8] rfl (by (try simp only [List.map_toArray, List.map_cons, List.map_nil]); first | done | rfl | (simp only [List.length_drop, List.length_take]; rfl)) ?_; (with_reducible refine (impl_in.calls a1 0 8 false _ A5.out).mono ?_); rintro e w' ⟨rfl, ⟨nd, rfl⟩⟩; refine ⟨_, rfl, ?_⟩))
      go_ret2
      exact ⟨by first | rfl | (simp [errW_none, errW_some] <;> rfl) | (simp [*, errW_none, errW_some] <;> rfl), by repeat (first | (with_reducible first | exact HB.out | apply below_alloc | apply pw_below_drewN | apply below_drew1) | exact HB.out)⟩
  · replace c4 := Bool.eq_false_iff.mpr c4
    subst c4
    have H1 : (some (0, 1)) = some (r1, r2) := by rw [if_neg (show ¬ (false = true) by decide)] at H; exact H
    clear H
    have H := H1
    clear H1
    simp only [Option.some.injEq, Prod.mk.injEq] at H
    obtain ⟨rfl, rfl⟩ := H
    go_enter Try.func41, Try.ntmps41
    go_wp2_with (first | ((with_reducible refine gate_callee (f := 120) rfl ?_); refine goesL_ (some 8) rfl rfl Try.func120 (by kernel_rfl) rfl #[.slice A0 l0.length c0] rfl (by (try simp only [List.map_toArray, List.map_cons, List.map_nil]); first | done | rfl | (simp only [List.length_drop, List.length_take]; rfl)) ?_; (with_reducible refine (impl_IsWord.calls k _ _ l0 false _ ?side1 ?side2 A3.out).mono ?_); (case side1 => repeat (first | exact HR0.out | (with_reducible refine Kd.C_alloc ?_ _) | (with_reducible refine Kd.C_drewN ?_ _) | (with_reducible refine Kd.C_drew ?_))); (case side2 => exact HC0.out); rintro e w14 ⟨rfl, hb⟩; refine ⟨_, rfl, ?_⟩; have n0_ := Aside0.mk (below_step (by repeat (first | (with_reducible first | exact HB.out | apply below_alloc | apply pw_below_drewN | apply below_drew1) | exact HB.out)) hb); clear HB; have HB := n0_; clear n0_; (try clear hb); (try clear hb2); (try clear hk); (try clear hi)))
    go_ret2
    exact ⟨by first | rfl | (simp [errW_none, errW_some] <;> rfl) | (simp [*, errW_none, errW_some] <;> rfl), by repeat (first | (with_reducible first | exact HB.out | apply below_alloc | apply pw_below_drewN | apply below_drew1) | exact HB.out)⟩
end Go.Proofs.Ytnlhhbnoccobmaa.F
end
section
namespace Go.Proofs.Ytnlhhbnoccobmaa.F
open Go.RowKit Go.Proofs.YtnlhhbnoccobmaaW.PrintWords Go.Proofs.YtnlhhbnoccobmaaW.PrintLast Go.Proofs.YtnlhhbnoccobmaaW.PrintMore
attribute [local go_sem] max2_int min2_int max_two min_two max_three min_three max_four min_four   
set_option linter.unusedVariables false
set_option linter.unusedSimpArgs false
def laws_big.f (l0 : List Int) : Option (Bool) := some (decide ((l0.length : Int) > 4096))
set_option maxHeartbeats 8000000 in
set_option maxRecDepth 100000 in
theorem laws_big.calls (A0 : Option Addr) (c0 : Nat) (l0 : List Int) (r : Bool) (w : World) (hr0 : Kd.C (Kd.int .u8) w A0 l0.length l0) (hc0 : l0.length ≤ c0) (h : laws_big.f l0 = some r) :
    Calls Try.prog 49 #[.slice A0 l0.length c0] w fun e w' => e = .returned (.bool r) ∧ Drawn0 w w' := by
  have HR0 := Aside0.mk hr0
  have HC0 := Aside0.mk hc0
  clear hr0 hc0
  have H : (some (decide ((l0.length : Int) > 4096))) = some r := h
  clear h
  obtain rfl := Option.some.inj H
  go_enter Try.func49, Try.ntmps49
  go_wp2
  go_ret
  exact ⟨by first | rfl | (simp; done) | (simp [*]; done), by repeat (first | exact Drawn0.refl _ | apply Drawn0.step)⟩
end Go.Proofs.Ytnlhhbnoccobmaa.F
end
section
namespace Go.Proofs.Ytnlhhbnoccobmaa.F
open Go.RowKit Go.Proofs.YtnlhhbnoccobmaaW.PrintWords Go.Proofs.YtnlhhbnoccobmaaW.PrintLast Go.Proofs.YtnlhhbnoccobmaaW.PrintMore
attribute [local go_sem] max2_int min2_int max_two min_two max_three min_three max_four min_four   
set_option linter.unusedVariables false
set_option linter.unusedSimpArgs false
def IsS137 (w0 W : World) (g : Nat) (f0 : List Int) (f1 : Int) (f2 : Int) : Prop := ∃ A0 c0, W.heap[g]? = some (.cells #[.slice A0 f0.length c0, .int .i64 f1, .int .u64 f2] 137 (0, 0)) ∧ w0.heap.size ≤ g ∧ Kd.C (Kd.int .u8) w0 A0 f0.length f0
theorem IsS137.grown {w0 W : World} {g : Nat} {f0 : List Int} {f1 : Int} {f2 : Int} {W1 : World} {row : Option Nat} (h : IsS137 w0 W g f0 f1 f2) (hw : W.grownBy W1 row) (hne : some g ≠ row) : IsS137 w0 W1 g f0 f1 f2 := by
 obtain ⟨A0, c0, hb, hg, hr0⟩ := h
 exact ⟨A0, c0, blk_grown hb hw hne, hg, hr0⟩
theorem IsS137.kept {w0 W : World} {g : Nat} {f0 : List Int} {f1 : Int} {f2 : Int} {W1 : World} {S : Nat → Prop} (h : IsS137 w0 W g f0 f1 f2) (hk : Kept W W1 S) (hne : ¬ S g) : IsS137 w0 W1 g f0 f1 f2 := by
 obtain ⟨A0, c0, hb, hg, hr0⟩ := h
 exact ⟨A0, c0, blk_kept hb hk hne, hg, hr0⟩
theorem IsS137.below {w0 W : World} {g : Nat} {f0 : List Int} {f1 : Int} {f2 : Int} {W1 : World} (h : IsS137 w0 W g f0 f1 f2) (hw : Below W.heap.size W W1) : IsS137 w0 W1 g f0 f1 f2 := h.grown (grown_of_below hw none) (by simp)
theorem IsS137.alloc {w0 W : World} {g : Nat} {f0 : List Int} {f1 : Int} {f2 : Int} (h : IsS137 w0 W g f0 f1 f2) (o : Obj) : IsS137 w0 (W.alloc o) g f0 f1 f2 := h.below (below_alloc (Below.refl _ _) o)
theorem IsS137.drewN {w0 W : World} {g : Nat} {f0 : List Int} {f1 : Int} {f2 : Int} (h : IsS137 w0 W g f0 f1 f2) (m : Nat) : IsS137 w0 (W.drewN m) g f0 f1 f2 := h
theorem IsS137.drew {w0 W : World} {g : Nat} {f0 : List Int} {f1 : Int} {f2 : Int} (h : IsS137 w0 W g f0 f1 f2) : IsS137 w0 W.drew g f0 f1 f2 := h
theorem IsS137.at_ {w0 W : World} {g : Nat} {f0 : List Int} {f1 : Int} {f2 : Int} {w' : World} {m : Nat} (hq : W.drewN m = w') (h : IsS137 w0 W g f0 f1 f2) : IsS137 w0 w' g f0 f1 f2 := by subst hq; exact IsS137.drewN h m
theorem IsS137.apart {w0 W : World} {g : Nat} {f0 : List Int} {f1 : Int} {f2 : Int} {α : Type} {d : Kd α} {e : Nat} {base : Nat} {ok : Nat → Prop} {v : Value} {xs : List α} (h : IsS137 w0 W g f0 f1 f2) (ho : d.R e W base ok v xs) (ht : ∀ q, q ∈ e :: d.E → q ≠ 137) : d.R e W base (fun k => ok k ∧ k ≠ g) v xs := by
 obtain ⟨A0, c0, hb, hg, hr0⟩ := h
 exact Kd.R_types ho hb ht
theorem IsS137.own_ne {w0 W : World} {g : Nat} {f0 : List Int} {f1 : Int} {f2 : Int} {α : Type} {d : Kd α} {e : Nat} {base : Nat} {ok : Nat → Prop} {v : Value} {xs : List α} (h : IsS137 w0 W g f0 f1 f2) (ho : d.R e W base ok v xs) (ht : e ≠ 137) : some g ≠ v.ownBlock := by
 obtain ⟨A0, c0, hb, hg, hr0⟩ := h
 exact Kd.R_ne ho hb ht
theorem IsS137.lt {w0 W : World} {g : Nat} {f0 : List Int} {f1 : Int} {f2 : Int} (h : IsS137 w0 W g f0 f1 f2) : g < W.heap.size := by
 obtain ⟨A0, c0, hb, hg, hr0⟩ := h
 exact blk_lt hb
theorem IsS137.ge {w0 W : World} {g : Nat} {f0 : List Int} {f1 : Int} {f2 : Int} (h : IsS137 w0 W g f0 f1 f2) : w0.heap.size ≤ g := by
 obtain ⟨A0, c0, hb, hg, hr0⟩ := h
 exact hg
theorem cellS137_0 {W : World} {g : Nat} {A0 : Option Addr} {c0 : Nat} {f0 : List Int} {f1 : Int} {f2 : Int} (h : W.heap[g]? = some (.cells #[.slice A0 f0.length c0, .int .i64 f1, .int .u64 f2] 137 (0, 0))) : W.cell? ⟨g, 0, none⟩ = some (.slice A0 f0.length c0) := (blk_cell h 0).trans rfl
theorem cellS137_1 {W : World} {g : Nat} {A0 : Option Addr} {c0 : Nat} {f0 : List Int} {f1 : Int} {f2 : Int} (h : W.heap[g]? = some (.cells #[.slice A0 f0.length c0, .int .i64 f1, .int .u64 f2] 137 (0, 0))) : W.cell? ⟨g, 1, none⟩ = some (.int .i64 f1) := (blk_cell h 1).trans rfl
theorem IsS137.set_1 {w0 W : World} {g : Nat} {f0 : List Int} {f1 : Int} {f2 : Int} (h : IsS137 w0 W g f0 f1 f2) (x : Int) : IsS137 w0 (W.setCell ⟨g, 1, none⟩ (.int .i64 x)) g f0 x f2 := by
 obtain ⟨A0, c0, hb, hg, hr0⟩ := h
 exact ⟨A0, c0, by simpa using blk_set hb 1 (.int .i64 x), hg, hr0⟩
theorem cellS137_2 {W : World} {g : Nat} {A0 : Option Addr} {c0 : Nat} {f0 : List Int} {f1 : Int} {f2 : Int} (h : W.heap[g]? = some (.cells #[.slice A0 f0.length c0, .int .i64 f1, .int .u64 f2] 137 (0, 0))) : W.cell? ⟨g, 2, none⟩ = some (.int .u64 f2) := (blk_cell h 2).trans rfl
theorem IsS137.set_2 {w0 W : World} {g : Nat} {f0 : List Int} {f1 : Int} {f2 : Int} (h : IsS137 w0 W g f0 f1 f2) (x : Int) : IsS137 w0 (W.setCell ⟨g, 2, none⟩ (.int .u64 x)) g f0 f1 x := by
 obtain ⟨A0, c0, hb, hg, hr0⟩ := h
 exact ⟨A0, c0, by simpa using blk_set hb 2 (.int .u64 x), hg, hr0⟩
theorem IsS137.new (w0 W : World) (A0 : Option Addr) (c0 : Nat) (f0 : List Int) (f1 : Int) (f2 : Int) (hB : Below w0.heap.size w0 W) (hr0 : Kd.C (Kd.int .u8) w0 A0 f0.length f0) : IsS137 w0 (W.alloc (.cells #[.slice A0 f0.length c0, .int .i64 f1, .int .u64 f2] 137)) W.heap.size f0 f1 f2 := ⟨A0, c0, by simpa using heap_alloc_new W _, hB.size, hr0⟩
def spec_l01Next.f (s0_0 : List Int) (s0_1 : Int) (s0_2 : Int) (a1 : Int) : Option (Int × Int × Int) := if a1 < 1 then (some (0, s0_1, s0_2)) else (if s0_1 < (s0_0.length : Int) then (if 0 ≤ s0_1 then (if a1 = 0 then (none) else (some (Int.tmod (wrap64 ((wrap64 (Go.bits .and .u64 ((IntKind.u64.wrap ((IntKind.u64.wrap (s0_2 * 6364136223846793005)) + 1442695040888963407)) / 8589934592) 16777215)) + (wrap64 (rd s0_0 s0_1)))) a1, wrap64 (s0_1 + 1), IntKind.u64.wrap ((IntKind.u64.wrap (s0_2 * 6364136223846793005)) + 1442695040888963407)))) else (none)) else (if a1 = 0 then (none) else (some (Int.tmod (wrap64 (Go.bits .and .u64 ((IntKind.u64.wrap ((IntKind.u64.wrap (s0_2 * 6364136223846793005)) + 1442695040888963407)) / 8589934592) 16777215)) a1, s0_1, IntKind.u64.wrap ((IntKind.u64.wrap (s0_2 * 6364136223846793005)) + 1442695040888963407)))))
set_option maxHeartbeats 8000000 in
set_option maxRecDepth 100000 in
theorem spec_l01Next.calls (g : Nat) (s0_0 : List Int) (s0_1 : Int) (s0_2 : Int) (a1 : Int) (r1 : Int) (r2 : Int) (r3 : Int) (w0 w : World) (hI : IsS137 w0 w g s0_0 s0_1 s0_2) (hB : Below w0.heap.size w0 w) (h : spec_l01Next.f s0_0 s0_1 s0_2 a1 = some (r1, r2, r3)) :
  Calls Try.prog 127 #[.pointer (some ⟨g, 0, none⟩), .int .i64 a1] w fun e w' => e = .returned (.int .i64 r1) ∧ IsS137 w0 w' g s0_0 r2 r3 ∧ Below w0.heap.size w0 w' ∧ KeepBut w w' g none := by
 have HI0 := Aside0.mk hI
 have HK := Aside0.mk (KeepBut.refl w g none)
 have HL := Aside0.mk hB.size
 clear hI
 have HW0 := Aside0.mk hB.size
 have HB := Aside0.mk hB
 clear hB
 have H : (if a1 < 1 then (some (0, s0_1, s0_2)) else (if s0_1 < (s0_0.length : Int) then (if 0 ≤ s0_1 then (if a1 = 0 then (none) else (some (Int.tmod (wrap64 ((wrap64 (Go.bits .and .u64 ((IntKind.u64.wrap ((IntKind.u64.wrap (s0_2 * 6364136223846793005)) + 1442695040888963407)) / 8589934592) 16777215)) + (wrap64 (rd s0_0 s0_1)))) a1, wrap64 (s0_1 + 1), IntKind.u64.wrap ((IntKind.u64.wrap (s0_2 * 6364136223846793005)) + 1442695040888963407)))) else (none)) else (if a1 = 0 then (none) else (some (Int.tmod (wrap64 (Go.bits .and .u64 ((IntKind.u64.wrap ((IntKind.u64.wrap (s0_2 * 6364136223846793005)) + 1442695040888963407)) / 8589934592) 16777215)) a1, s0_1, IntKind.u64.wrap ((IntKind.u64.wrap (s0_2 * 6364136223846793005)) + 1442695040888963407)))))) = some (r1, r2, r3) := h
 clear h
 by_cases c3 : a1 < 1
 ·rw [if_pos c3] at H
  have c3b0 : decide (a1 < 1) = true := decide_eq_true c3
  clear c3
  simp only [Option.some.injEq, Prod.mk.injEq] at H
  obtain ⟨rfl, rfl, rfl⟩ := H
  go_enter Try.func127, Try.ntmps127
  go_wp2
  repeat (go_quiet (fail); try go_wp2)
  go_ret
  exact ⟨by first | rfl | (simp [errW_none, errW_some] <;> rfl) | (simp [*, errW_none, errW_some] <;> rfl), by repeat (first | (with_reducible first | exact HI0.out | apply IsS137.alloc | apply IsS137.drewN | apply IsS137.drew | apply IsS137.set_1 | apply IsS137.set_2) | exact HI0.out), by repeat (first | (with_reducible first | exact HB.out | apply below_alloc | apply pw_below_drewN | apply below_drew1 | refine below_set ?_ (IsS137.ge HI0.out)) | exact HB.out), by repeat (first | (with_reducible first | exact HK.out | apply KeepBut.set_ | apply keep_drewN | apply keep_drew | apply keep_alloc) | exact HK.out)⟩
 ·rw [if_neg c3] at H
  have c3b0 : decide (a1 < 1) = false := decide_eq_false c3
  clear c3
  by_cases c4 : s0_1 < (s0_0.length : Int)
  ·rw [if_pos c4] at H
   have c4b0 : decide (s0_1 < (s0_0.length : Int)) = true := decide_eq_true c4
   clear c4
   by_cases c5 : 0 ≤ s0_1
   ·rw [if_pos c5] at H
    have c5b0 : decide (0 ≤ s0_1) = true := decide_eq_true c5
    clear c5
    by_cases c6 : a1 = 0
    ·rw [if_pos c6] at H
     exact absurd H (by simp)
    ·rw [if_neg c6] at H
     have c6b0 : (a1 == 0) = false := beq_eq_false_iff_ne.mpr c6
     have c6b1 : (a1 != 0) = true := bne_iff_ne.mpr c6
     simp only [Option.some.injEq, Prod.mk.injEq] at H
     obtain ⟨rfl, rfl, rfl⟩ := H
     obtain ⟨ASz7_0, cSz7_0, HGz7, hgz7, HSz7_0⟩ := HI0.out
     have hcz7_0 := cellS137_0 HGz7
     have hcz7_1 := cellS137_1 HGz7
     have hcz7_2 := cellS137_2 HGz7
     have hfz7_1 := blk_frozen HGz7 1
     have hfz7_2 := blk_frozen HGz7 2
     clear HGz7 hgz7
     have p1271001 : 0 ≤ (s0_1 : Int) := of_decide_eq_true (by first | (with_reducible assumption) | assumption)
     have q1271001 : s0_1 < (s0_0.length : Int) := of_decide_eq_true (by first | (with_reducible assumption) | assumption)
     obtain ⟨ad1271001, e1271001, hx1271001_0⟩ := Kd.at_int HSz7_0 s0_1 p1271001 q1271001
     cases e1271001
     have hn1271001_0 : ad1271001.block ≠ g := Nat.ne_of_lt (Nat.lt_of_lt_of_le (by have := World.block_lt_of_cell? _ _ hx1271001_0; first | rwa [add_block] at this | exact this) (IsS137.ge HI0.out))
     replace hx1271001_0 := pw_cell_below HB.out hx1271001_0
     replace hx1271001_0 := (cell_far (p := ⟨g, 2, none⟩) (by first | (rw [add_block]; exact hn1271001_0) | (show (Addr.add _ _).block ≠ _; rw [add_block]; exact hn1271001_0) | exact hn1271001_0) (.int .u64 (IntKind.u64.wrap ((IntKind.u64.wrap (s0_2 * 6364136223846793005)) + 1442695040888963407)))).trans hx1271001_0
     (try have hy1271001_0 := fun (n_ : Nat) => (show (((w.drewN n_).setCell ⟨g, 2, none⟩ (.int .u64 (IntKind.u64.wrap ((IntKind.u64.wrap (s0_2 * 6364136223846793005)) + 1442695040888963407))))).cell? _ = some _ from hx1271001_0))
     clear hn1271001_0
     replace p1271001 := eq_true p1271001
     replace q1271001 := eq_true q1271001
     go_enter Try.func127, Try.ntmps127
     go_wp2
     repeat (go_quiet (fail); try go_wp2)
     go_ret
     exact ⟨by first | rfl | (simp [errW_none, errW_some] <;> rfl) | (simp [*, errW_none, errW_some] <;> rfl), by repeat (first | (with_reducible first | exact HI0.out | apply IsS137.alloc | apply IsS137.drewN | apply IsS137.drew | apply IsS137.set_1 | apply IsS137.set_2) | exact HI0.out), by repeat (first | (with_reducible first | exact HB.out | apply below_alloc | apply pw_below_drewN | apply below_drew1 | refine below_set ?_ (IsS137.ge HI0.out)) | exact HB.out), by repeat (first | (with_reducible first | exact HK.out | apply KeepBut.set_ | apply keep_drewN | apply keep_drew | apply keep_alloc) | exact HK.out)⟩
   ·rw [if_neg c5] at H
    exact absurd H (by simp)
  ·rw [if_neg c4] at H
   have c4b0 : decide (s0_1 < (s0_0.length : Int)) = false := decide_eq_false c4
   clear c4
   by_cases c8 : a1 = 0
   ·rw [if_pos c8] at H
    exact absurd H (by simp)
   ·rw [if_neg c8] at H
    have c8b0 : (a1 == 0) = false := beq_eq_false_iff_ne.mpr c8
    have c8b1 : (a1 != 0) = true := bne_iff_ne.mpr c8
    simp only [Option.some.injEq, Prod.mk.injEq] at H
    obtain ⟨rfl, rfl, rfl⟩ := H
    obtain ⟨ASz9_0, cSz9_0, HGz9, hgz9, HSz9_0⟩ := HI0.out
    have hcz9_0 := cellS137_0 HGz9
    have hcz9_1 := cellS137_1 HGz9
    have hcz9_2 := cellS137_2 HGz9
    have hfz9_1 := blk_frozen HGz9 1
    have hfz9_2 := blk_frozen HGz9 2
    clear HGz9 hgz9
    go_enter Try.func127, Try.ntmps127
    go_wp2
    repeat (go_quiet (fail); try go_wp2)
    go_ret
    exact ⟨by first | rfl | (simp [errW_none, errW_some] <;> rfl) | (simp [*, errW_none, errW_some] <;> rfl), by repeat (first | (with_reducible first | exact HI0.out | apply IsS137.alloc | apply IsS137.drewN | apply IsS137.drew | apply IsS137.set_1 | apply IsS137.set_2) | exact HI0.out), by repeat (first | (with_reducible first | exact HB.out | apply below_alloc | apply pw_below_drewN | apply below_drew1 | refine below_set ?_ (IsS137.ge HI0.out)) | exact HB.out), by repeat (first | (with_reducible first | exact HK.out | apply KeepBut.set_ | apply keep_drewN | apply keep_drew | apply keep_alloc) | exact HK.out)⟩
end Go.Proofs.Ytnlhhbnoccobmaa.F
end
section
namespace Go.Proofs.Ytnlhhbnoccobmaa.F
open Go.RowKit Go.Proofs.YtnlhhbnoccobmaaW.PrintWords Go.Proofs.YtnlhhbnoccobmaaW.PrintLast Go.Proofs.YtnlhhbnoccobmaaW.PrintMore
attribute [local go_sem] max2_int min2_int max_two min_two max_three min_three max_four min_four   
set_option linter.unusedVariables false
set_option linter.unusedSimpArgs false
def spec_l01From.l0 : Nat → List Int → Int → List Int → Int → Int → Option (List Int × Int × Int)
 | 0, _, _, _, _, _ => none
 | k + 1, x0, x4, x1281002000, x1281002001, x1281002002 => if x4 < (x0.length : Int) then (if x4 < 4096 then (if 0 ≤ x4 then (spec_l01From.l0 k x0 (wrap64 (x4 + 1)) x1281002000 x1281002001 (IntKind.u64.wrap ((IntKind.u64.wrap ((IntKind.u64.wrap (x1281002002 * 1099511628211)) + (IntKind.u64.wrap (rd x0 x4)))) + 113))) else (none)) else (some (x1281002000, x1281002001, x1281002002))) else (some (x1281002000, x1281002001, x1281002002))
def spec_l01From.f (k : Nat) (l0 : List Int) : Option (List Int × Int × Int) := spec_l01From.l0 k l0 0 l0 0 (IntKind.u64.wrap (13031 + (IntKind.u64.wrap ((l0.length : Int)))))
theorem spec_l01From.mono_l : ∀ k, (∀ y0 y1 y2 y3 y4, LeO (spec_l01From.l0 k y0 y1 y2 y3 y4) (spec_l01From.l0 (k + 1) y0 y1 y2 y3 y4))
 | 0 => fun _ _ _ _ _ r h => by simp [spec_l01From.l0] at h
 | k + 1 => by
  have ih0 := spec_l01From.mono_l k
  ·intro y0 y1 y2 y3 y4
   unfold spec_l01From.l0
   repeat' first
   | (with_reducible exact ih0 _ _ _ _ _)
   | (with_reducible exact LeO.refl _)
   | (with_reducible exact LeO.none _)
   | (with_reducible refine LeO.ite ?_ ?_)
   | (with_reducible refine LeO.bind ?_ (fun _ => ?_))
   | exact ih0 _ _ _ _ _
   | exact LeO.none _
   | refine LeO.ite ?_ ?_
   | refine LeO.bind ?_ (fun _ => ?_)
theorem spec_l01From.mono : ∀ a0 k, LeO (spec_l01From.f k a0) (spec_l01From.f (k + 1) a0) := by
 intro a0 k
 have ih0 := spec_l01From.mono_l k
 unfold spec_l01From.f
 repeat' first
   | (with_reducible exact ih0 _ _ _ _ _)
   | (with_reducible exact LeO.refl _)
   | (with_reducible exact LeO.none _)
   | (with_reducible refine LeO.ite ?_ ?_)
   | (with_reducible refine LeO.bind ?_ (fun _ => ?_))
   | exact ih0 _ _ _ _ _
   | exact LeO.none _
   | refine LeO.ite ?_ ?_
   | refine LeO.bind ?_ (fun _ => ?_)
def spec_l01From.T5 : Bool × List (List Nat × List Nat) := (true, [([], []), ([], []), ([1], [1]), ([2], [2]), ([3], [3]), ([4], [4]), ([], []), ([], []), ([6, 7], [6, 7]), ([8], [8]), ([9], [9]), ([5, 10], [5, 10]), ([11], [11]), ([0, 0, 1, 2, 3, 4, 5, 6, 7, 8, 9, 10, 11, 12], [0]), ([13, 0, 1, 2, 3, 4, 5, 6, 7, 8, 9, 10, 11, 12], [13]), ([14, 12, 0, 1, 2, 3, 4, 5, 6, 7, 8, 9, 10, 11, 12], [12, 14])])
def spec_l01From.B5 : List Nat := [0, 0, 2, 6, 14, 30, 0, 0, 192, 448, 960, 2046, 4094, 8191, 16383, 32767]
theorem spec_l01From.tab5 : rtab .any (opsOf Try.f128 5) = spec_l01From.T5 := by kernel_rfl
theorem spec_l01From.bits5 : waitsOk spec_l01From.T5.2 spec_l01From.B5 = true := by kernel_rfl
set_option maxHeartbeats 8000000 in
set_option maxRecDepth 100000 in
theorem spec_l01From.calls (k : Nat) (A0 : Option Addr) (c0 : Nat) (l0 : List Int) (r1 : List Int) (r2 : Int) (r3 : Int) (w0 w : World) (hB : Below w0.heap.size w0 w) (hr0 : Kd.C (Kd.int .u8) w0 A0 l0.length l0) (hc0 : l0.length ≤ c0) (h : spec_l01From.f k l0 = some (r1, r2, r3)) :
  Calls Try.prog 128 #[.slice A0 l0.length c0] w fun e w' => ∃ g_ : Nat, e = .returned (.pointer (some ⟨g_, 0, none⟩)) ∧ IsS137 w0 w' g_ r1 r2 r3 ∧ Below w0.heap.size w0 w' ∧ Below w.heap.size w w' := by
 have hu137 := Try.underlying137
 have HR0 := Aside0.mk hr0
 have HC0 := Aside0.mk hc0
 clear hr0 hc0
 have HBW := Aside0.mk (Below.refl w.heap.size w)
 have HW0 := Aside0.mk hB.size
 have HB := Aside0.mk hB
 clear hB
 have H : (spec_l01From.l0 k l0 0 l0 0 (IntKind.u64.wrap (13031 + (IntKind.u64.wrap ((l0.length : Int)))))) = some (r1, r2, r3) := h
 clear h
 have H' := Aside0.mk H
 clear H
 go_enter Try.func128, Try.ntmps128
 go_wp2_with (first | ((with_reducible refine gate_dst (N := 11) rfl ?_); refine box_event ?hg (N := 11) ?hd (cs := #[.slice A0 l0.length c0, .int .i64 0, .int .u64 (IntKind.u64.wrap (13031 + (IntKind.u64.wrap ((l0.length : Int)))))]) (t := 137) ?hr ?_; (case hd => rfl); (case hg => rfl); (case hr => first | (go_simp; done) | (go_simp; rfl)); intro gb1281001 hg w2 hbox hb; have n0_ := Aside0.mk (below_step HBW.out hb); have n1_ := Aside0.mk (below_step (by repeat (first | (with_reducible first | exact HB.out | apply below_alloc | apply pw_below_drewN | apply below_drew1) | exact HB.out)) hb); have n2_ := Aside0.mk (hbox); have n3_ := Aside0.mk ((by rw [hg]; exact (below_size (by repeat (first | (with_reducible first | exact HBW.out | apply below_alloc | apply pw_below_drewN | apply below_drew1) | exact HBW.out))) : w.heap.size ≤ gb1281001)); have n4_ := Aside0.mk ((Nat.le_trans HW0.out (by rw [hg]; exact (below_size (by repeat (first | (with_reducible first | exact HBW.out | apply below_alloc | apply pw_below_drewN | apply below_drew1) | exact HBW.out))) : w.heap.size ≤ gb1281001) : w0.heap.size ≤ gb1281001)); clear HBW; clear HB; have HBW := n0_; have HB := n1_; have BK1281001 := n2_; have GW1281001 := n3_; have GE1281001 := n4_; clear n0_ n1_ n2_ n3_ n4_; clear hb hbox hg))
 go_loopg [4] k (fun kq v4 w' => ∃ (x4_1 : Int) (x1281002002_1 : Int), v4 = .int .i64 x4_1 ∧ Aside0 (spec_l01From.l0 kq l0 x4_1 l0 0 x1281002002_1 = some (r1, r2, r3)) ∧ Aside0 (kq ≤ k) ∧ Aside0 (w'.heap[gb1281001]? = some (.cells #[(.slice A0 l0.length c0), .int .i64 0, .int .u64 x1281002002_1] 137 (0, 0))) ∧ Aside0 (Below w0.heap.size w0 w') ∧ Aside0 (Below w.heap.size w w'))
 case atStart => exact ⟨(0), (IntKind.u64.wrap (13031 + (IntKind.u64.wrap ((l0.length : Int))))), (by first | rfl | (simp; done) | (simp [*]; done)), H', ⟨Nat.le_refl _⟩, ⟨by (with_reducible repeat (first | refine blk_drewN ?_ _ | refine blk_drew ?_ | refine blk_alloc ?_ _)); exact BK1281001.out⟩, ⟨by repeat (first | (with_reducible first | exact HB.out | apply below_alloc | apply pw_below_drewN | apply below_drew1 | refine below_set ?_ GE1281001.out) | exact HB.out)⟩, ⟨by repeat (first | (with_reducible first | exact HBW.out | apply below_alloc | apply pw_below_drewN | apply below_drew1 | refine below_set ?_ GW1281001.out) | exact HBW.out)⟩⟩
 case round =>
  clear H'
  try clear c1
  try clear p2
  obtain ⟨x4_1, x1281002002_1, rfl, HA, HK1, BK1281001, HB, HBW⟩ := hrel
  cases gk with
  | zero => exact absurd HA.out (by simp [spec_l01From.l0])
  | succ k1 =>
   have H := HA.out
   clear HA
   simp only [spec_l01From.l0] at H
   by_cases c3 : x4_1 < (l0.length : Int)
   ·rw [if_pos c3] at H
    have c3b0 : decide (x4_1 < (l0.length : Int)) = true := decide_eq_true c3
    clear c3
    by_cases c4 : x4_1 < 4096
    ·rw [if_pos c4] at H
     have c4b0 : decide (x4_1 < 4096) = true := decide_eq_true c4
     clear c4
     by_cases c5 : 0 ≤ x4_1
     ·rw [if_pos c5] at H
      have c5b0 : decide (0 ≤ x4_1) = true := decide_eq_true c5
      clear c5
      have H' := Aside0.mk H
      clear H
      try go_wp2
      have n0_ := Aside0.mk (blk_drew BK1281001.out)
      have n1_ := Aside0.mk (below_drew1 HB.out)
      clear BK1281001
      clear HB
      have BK1281001 := n0_
      have HB := n1_
      replace HBW := Aside0.mk (below_drew1 HBW.out)
      clear n0_ n1_
      have p1281002 : 0 ≤ (x4_1 : Int) := of_decide_eq_true (by first | (with_reducible assumption) | assumption)
      have q1281002 : x4_1 < (l0.length : Int) := of_decide_eq_true (by first | (with_reducible assumption) | assumption)
      obtain ⟨ad1281002, e1281002, hx1281002_0⟩ := Kd.at_int HR0.out x4_1 p1281002 q1281002
      have hw1281002_0 := hx1281002_0
      cases e1281002
      replace hx1281002_0 := pw_cell_below HB.out hx1281002_0
      replace p1281002 := eq_true p1281002
      replace q1281002 := eq_true q1281002
      refine start_ (n := 16) (S := fun w' => w'.cell? ⟨gb1281001, 0, none⟩ = some (.slice (some ad1281002) l0.length c0) ∧ w'.cell? ⟨gb1281001, 1, none⟩ = some (.int .i64 0) ∧ w'.cell? ⟨gb1281001, 2, none⟩ = some (.int .u64 x1281002002_1) ∧ w'.cell? (ad1281002.add (x4_1).toNat) = some (.int .u8 (rd l0 x4_1))) (ds := [15]) #[false, false, false, false, false, false, false, false, false, false, false, false, false, false, false, false] (by kernel_rfl) rfl rfl ⟨(blk_cell BK1281001.out 0).trans rfl, (blk_cell BK1281001.out 1).trans rfl, (blk_cell BK1281001.out 2).trans rfl, (pw_cell_below HB.out hw1281002_0)⟩ (fun hHeld => ?_); refine with_tabW spec_l01From.tab5 spec_l01From.bits5 (fun HT_ HW_ => ?_)
      generalize wr.drew = w6 at BK1281001 HB HBW hx1281002_0 hHeld ⊢
      refine pure_ (i := 0) (N := some 22) (v := ?_) (a' := ?_) #[true, false, false, false, false, false, false, false, false, false, false, false, false, false, false, false] rfl rfl (any_of HT_.out (by kernel_rfl)) (fun _ _ _ h => h) (Or.inl ⟨by rfl, ?_⟩) ?_ ?_
      rotate_left
      ·intro w'
       go_simp
       with_reducible rfl
      rotate_left
      ·simp only [Act.put, List.setIfInBounds_toArray, List.set_cons_zero, List.set_cons_succ, i64_w, i32_w]
       rfl
      refine pure_ (i := 1) (N := some 23) (v := ?_) (a' := ?_) #[true, true, false, false, false, false, false, false, false, false, false, false, false, false, false, false] rfl rfl (any_of HT_.out (by kernel_rfl)) (fun _ _ _ h => h) (Or.inl ⟨by rfl, ?_⟩) ?_ ?_
      rotate_left
      ·intro w'
       go_simp
       with_reducible rfl
      rotate_left
      ·simp only [Act.put, List.setIfInBounds_toArray, List.set_cons_zero, List.set_cons_succ, i64_w, i32_w]
       rfl
      refine pure_ (i := 2) (N := some 24) (v := ?_) (a' := ?_) #[true, true, true, false, false, false, false, false, false, false, false, false, false, false, false, false] rfl rfl (any_of HT_.out (by kernel_rfl)) (fun _ _ _ h => h) (Or.inl ⟨by rfl, ?_⟩) ?_ ?_
      rotate_left
      ·intro w'
       go_simp
       with_reducible rfl
      rotate_left
      ·simp only [Act.put, List.setIfInBounds_toArray, List.set_cons_zero, List.set_cons_succ, i64_w, i32_w]
       rfl
      refine pure_ (i := 3) (N := some 25) (v := ?_) (a' := ?_) #[true, true, true, true, false, false, false, false, false, false, false, false, false, false, false, false] rfl rfl (any_of HT_.out (by kernel_rfl)) (fun _ _ _ h => h) (Or.inl ⟨by rfl, ?_⟩) ?_ ?_
      rotate_left
      ·intro w'
       go_simp
       with_reducible rfl
      rotate_left
      ·simp only [Act.put, List.setIfInBounds_toArray, List.set_cons_zero, List.set_cons_succ, i64_w, i32_w]
       rfl
      refine pure_ (i := 6) (N := some 28) (v := ?_) (a' := ?_) #[true, true, true, true, false, false, true, false, false, false, false, false, false, false, false, false] rfl rfl (any_of HT_.out (by kernel_rfl)) (fun _ _ _ h => h) (Or.inl ⟨by rfl, ?_⟩) ?_ ?_
      rotate_left
      ·intro w'
       go_simp
       with_reducible rfl
      rotate_left
      ·simp only [Act.put, List.setIfInBounds_toArray, List.set_cons_zero, List.set_cons_succ, i64_w, i32_w]
       rfl
      refine pure_ (i := 7) (N := some 29) (v := ?_) (a' := ?_) #[true, true, true, true, false, false, true, true, false, false, false, false, false, false, false, false] rfl rfl (any_of HT_.out (by kernel_rfl)) (fun _ _ _ h => h) (Or.inl ⟨by rfl, ?_⟩) ?_ ?_
      rotate_left
      ·intro w'
       go_simp
       with_reducible rfl
      rotate_left
      ·simp only [Act.put, List.setIfInBounds_toArray, List.set_cons_zero, List.set_cons_succ, i64_w, i32_w]
       rfl
      refine pure_ (i := 8) (N := some 30) (v := ?_) (a' := ?_) #[true, true, true, true, false, false, true, true, true, false, false, false, false, false, false, false] rfl rfl (any_of HT_.out (by kernel_rfl)) (fun _ _ _ h => h) (Or.inl ⟨by rfl, ?_⟩) ?_ ?_
      rotate_left
      ·intro w'
       go_simp
       with_reducible rfl
      rotate_left
      ·simp only [Act.put, List.setIfInBounds_toArray, List.set_cons_zero, List.set_cons_succ, i64_w, i32_w]
       rfl
      refine take_ (i := 4) (N := some 26) (v := ?_) (a' := ?_) #[true, true, true, true, true, false, true, true, true, false, false, false, false, false, false, false] rfl rfl (take_ofW HT_.out HW_.out (by kernel_rfl)) (fun _ _ _ h => h) (Or.inl ⟨by rfl, ?_⟩) hHeld ?_ ?_
      rotate_left
      ·rintro w' ⟨s0, s1, s2, s3⟩
       go_simp
       with_reducible rfl
      rotate_left
      ·simp only [Act.put, List.setIfInBounds_toArray, List.set_cons_zero, List.set_cons_succ, i64_w, i32_w]
       rfl
      refine pure_ (i := 5) (N := some 27) (v := ?_) (a' := ?_) #[true, true, true, true, true, true, true, true, true, false, false, false, false, false, false, false] rfl rfl (any_of HT_.out (by kernel_rfl)) (fun _ _ _ h => h) (Or.inl ⟨by rfl, ?_⟩) ?_ ?_
      rotate_left
      ·intro w'
       go_simp
       with_reducible rfl
      rotate_left
      ·simp only [Act.put, List.setIfInBounds_toArray, List.set_cons_zero, List.set_cons_succ, i64_w, i32_w]
       rfl
      refine take_ (i := 9) (N := some 31) (v := ?_) (a' := ?_) #[true, true, true, true, true, true, true, true, true, true, false, false, false, false, false, false] rfl rfl (take_ofW HT_.out HW_.out (by kernel_rfl)) (fun _ _ _ h => h) (Or.inl ⟨by rfl, ?_⟩) hHeld ?_ ?_
      rotate_left
      ·rintro w' ⟨s0, s1, s2, s3⟩
       go_simp
       with_reducible rfl
      rotate_left
      ·simp only [Act.put, List.setIfInBounds_toArray, List.set_cons_zero, List.set_cons_succ, i64_w, i32_w]
       rfl
      refine pure_ (i := 10) (N := some 32) (v := ?_) (a' := ?_) #[true, true, true, true, true, true, true, true, true, true, true, false, false, false, false, false] rfl rfl (any_of HT_.out (by kernel_rfl)) (fun _ _ _ h => h) (Or.inl ⟨by rfl, ?_⟩) ?_ ?_
      rotate_left
      ·intro w'
       go_simp
       with_reducible rfl
      rotate_left
      ·simp only [Act.put, List.setIfInBounds_toArray, List.set_cons_zero, List.set_cons_succ, i64_w, i32_w]
       rfl
      refine pure_ (i := 11) (N := some 33) (v := ?_) (a' := ?_) #[true, true, true, true, true, true, true, true, true, true, true, true, false, false, false, false] rfl rfl (any_of HT_.out (by kernel_rfl)) (fun _ _ _ h => h) (Or.inl ⟨by rfl, ?_⟩) ?_ ?_
      rotate_left
      ·intro w'
       go_simp
       with_reducible rfl
      rotate_left
      ·simp only [Act.put, List.setIfInBounds_toArray, List.set_cons_zero, List.set_cons_succ, i64_w, i32_w]
       rfl
      refine pure_ (i := 12) (N := some 34) (v := ?_) (a' := ?_) #[true, true, true, true, true, true, true, true, true, true, true, true, true, false, false, false] rfl rfl (any_of HT_.out (by kernel_rfl)) (fun _ _ _ h => h) (Or.inl ⟨by rfl, ?_⟩) ?_ ?_
      rotate_left
      ·intro w'
       go_simp
       with_reducible rfl
      rotate_left
      ·simp only [Act.put, List.setIfInBounds_toArray, List.set_cons_zero, List.set_cons_succ, i64_w, i32_w]
       rfl
      refine pure_ (i := 13) (N := some 35) (v := ?_) (a' := ?_) #[true, true, true, true, true, true, true, true, true, true, true, true, true, true, false, false] rfl rfl (any_of HT_.out (by kernel_rfl)) (fun _ _ _ h => h) (Or.inl ⟨by rfl, ?_⟩) ?_ ?_
      rotate_left
      ·intro w'
       go_simp
       with_reducible rfl
      rotate_left
      ·simp only [Act.put, List.setIfInBounds_toArray, List.set_cons_zero, List.set_cons_succ, i64_w, i32_w]
       rfl
      refine pure_ (i := 14) (N := some 36) (v := ?_) (a' := ?_) #[true, true, true, true, true, true, true, true, true, true, true, true, true, true, true, false] rfl rfl (any_of HT_.out (by kernel_rfl)) (fun _ _ _ h => h) (Or.inl ⟨by rfl, ?_⟩) ?_ ?_
      rotate_left
      ·intro w'
       go_simp
       with_reducible rfl
      rotate_left
      ·simp only [Act.put, List.setIfInBounds_toArray, List.set_cons_zero, List.set_cons_succ, i64_w, i32_w]
       rfl
      refine last_ (i := 15) (N := none) #[true, true, true, true, true, true, true, true, true, true, true, true, true, true, true, true] rfl rfl (one_of HT_.out (by kernel_rfl)) (by decide) (fun K hK => ?_)
      have hs7 : w6.cell? ⟨gb1281001, 2, none⟩ = some (.int .u64 x1281002002_1) := (blk_cell BK1281001.out 2).trans rfl
      have hfs7 := blk_frozen BK1281001.out 2
      refine skip_ (w1 := ?_) (by rfl) rfl ?_ ?_
      rotate_left
      ·go_simp
       rfl
      refine hK.out _ _ ?_
      clear hK K
      refine done_ (done_of HT_.out (by kernel_rfl)) ?_
      try go_wp2
      go_roundg k1
      case measure => have := HK1.out; omega
      case rel => exact ⟨(wrap64 (x4_1 + 1)), (IntKind.u64.wrap ((IntKind.u64.wrap ((IntKind.u64.wrap (x1281002002_1 * 1099511628211)) + (IntKind.u64.wrap (rd l0 x4_1)))) + 113)), (by first | rfl | (simp; done) | (simp [*]; done)), H', ⟨by have := HK1.out; omega⟩, ⟨by (with_reducible repeat (first | refine blk_drewN ?_ _ | refine blk_drew ?_ | refine blk_alloc ?_ _)); refine blk_put (cs := #[.slice (some ad1281002) l0.length c0, .int .i64 0, .int .u64 x1281002002_1]) ?_ 2 _ rfl; (with_reducible repeat (first | refine blk_drewN ?_ _ | refine blk_drew ?_ | refine blk_alloc ?_ _)); exact BK1281001.out⟩, ⟨by repeat (first | (with_reducible first | exact HB.out | apply below_alloc | apply pw_below_drewN | apply below_drew1 | refine below_set ?_ GE1281001.out) | exact HB.out)⟩, ⟨by repeat (first | (with_reducible first | exact HBW.out | apply below_alloc | apply pw_below_drewN | apply below_drew1 | refine below_set ?_ GW1281001.out) | exact HBW.out)⟩⟩
     ·rw [if_neg c5] at H
      exact absurd H (by simp)
    ·rw [if_neg c4] at H
     have c4b0 : decide (x4_1 < 4096) = false := decide_eq_false c4
     clear c4
     simp only [Option.some.injEq, Prod.mk.injEq] at H
     obtain ⟨rfl, rfl, rfl⟩ := H
     go_wp2
     go_ret
     exact ⟨_, rfl, (show IsS137 w0 _ gb1281001 l0 0 x1281002002_1 from ⟨_, _, by (with_reducible repeat (first | refine blk_drewN ?_ _ | refine blk_drew ?_ | refine blk_alloc ?_ _)); exact BK1281001.out, GE1281001.out, HR0.out⟩), by repeat (first | (with_reducible first | exact HB.out | apply below_alloc | apply pw_below_drewN | apply below_drew1 | refine below_set ?_ GE1281001.out) | exact HB.out), by repeat (first | (with_reducible first | exact HBW.out | apply below_alloc | apply pw_below_drewN | apply below_drew1 | refine below_set ?_ GW1281001.out) | exact HBW.out)⟩
   ·rw [if_neg c3] at H
    have c3b0 : decide (x4_1 < (l0.length : Int)) = false := decide_eq_false c3
    clear c3
    simp only [Option.some.injEq, Prod.mk.injEq] at H
    obtain ⟨rfl, rfl, rfl⟩ := H
    go_wp2
    go_ret
    exact ⟨_, rfl, (show IsS137 w0 _ gb1281001 l0 0 x1281002002_1 from ⟨_, _, by (with_reducible repeat (first | refine blk_drewN ?_ _ | refine blk_drew ?_ | refine blk_alloc ?_ _)); exact BK1281001.out, GE1281001.out, HR0.out⟩), by repeat (first | (with_reducible first | exact HB.out | apply below_alloc | apply pw_below_drewN | apply below_drew1 | refine below_set ?_ GE1281001.out) | exact HB.out), by repeat (first | (with_reducible first | exact HBW.out | apply below_alloc | apply pw_below_drewN | apply below_drew1 | refine below_set ?_ GW1281001.out) | exact HBW.out)⟩
end Go.Proofs.Ytnlhhbnoccobmaa.F
end
section
namespace Go.Proofs.Ytnlhhbnoccobmaa.F
open Go.RowKit Go.Proofs.YtnlhhbnoccobmaaW.PrintWords Go.Proofs.YtnlhhbnoccobmaaW.PrintLast Go.Proofs.YtnlhhbnoccobmaaW.PrintMore
attribute [local go_sem] max2_int min2_int max_two min_two max_three min_three max_four min_four   
set_option linter.unusedVariables false
set_option linter.unusedSimpArgs false
def spec_l01Pick.f (s0_0 : List Int) (s0_1 : Int) (s0_2 : Int) (l1 : List Int) : Option (Int × Int × Int) := (spec_l01Next.f s0_0 s0_1 s0_2 (l1.length : Int)).bind fun bt1531001 => (if 0 ≤ bt1531001.1 then (if bt1531001.1 < (l1.length : Int) then (some (rd l1 bt1531001.1, bt1531001.2.1, bt1531001.2.2)) else (none)) else (none))
set_option maxHeartbeats 8000000 in
set_option maxRecDepth 100000 in
theorem spec_l01Pick.calls (g : Nat) (s0_0 : List Int) (s0_1 : Int) (s0_2 : Int) (A1 : Option Addr) (c1 : Nat) (l1 : List Int) (r1 : Int) (r2 : Int) (r3 : Int) (w0 w : World) (hI : IsS137 w0 w g s0_0 s0_1 s0_2) (hB : Below w0.heap.size w0 w) (hr1 : Kd.C (Kd.int .i64) w A1 l1.length l1) (hc1 : l1.length ≤ c1) (hf1 : ∀ ad, A1 = some ad → 0 < l1.length → ad.block ≠ g) (h : spec_l01Pick.f s0_0 s0_1 s0_2 l1 = some (r1, r2, r3)) :
    Calls Try.prog 153 #[.pointer (some ⟨g, 0, none⟩), .slice A1 l1.length c1] w fun e w' => e = .returned (.int .i64 r1) ∧ IsS137 w0 w' g s0_0 r2 r3 ∧ Below w0.heap.size w0 w' ∧ KeepBut w w' g none := by
  have HR1 := Aside0.mk hr1
  have HC1 := Aside0.mk hc1
  clear hr1 hc1
  have HI0 := Aside0.mk hI
  have HK := Aside0.mk (KeepBut.refl w g none)
  have HL := Aside0.mk hB.size
  clear hI
  have HW0 := Aside0.mk hB.size
  have HB := Aside0.mk hB
  clear hB
  have H : ((spec_l01Next.f s0_0 s0_1 s0_2 (l1.length : Int)).bind fun bt1531001 => (if 0 ≤ bt1531001.1 then (if bt1531001.1 < (l1.length : Int) then (some (rd l1 bt1531001.1, bt1531001.2.1, bt1531001.2.2)) else (none)) else (none))) = some (r1, r2, r3) := h
  clear h
  replace H := Option.bind_eq_some_iff.mp H
  obtain ⟨⟨t1531001, t1531002, t1531003⟩, A30, H⟩ := H
  replace H : (if 0 ≤ t1531001 then (if t1531001 < (l1.length : Int) then (some (rd l1 t1531001, t1531002, t1531003)) else (none)) else (none)) = some (r1, r2, r3) := H
  have A3 := Aside0.mk A30
  clear A30
  by_cases c4 : 0 ≤ t1531001
  · rw [if_pos c4] at H
    have c4b0 : decide (0 ≤ t1531001) = true := decide_eq_true c4
    clear c4
    by_cases c5 : t1531001 < (l1.length : Int)
    · rw [if_pos c5] at H
      have c5b0 : decide (t1531001 < (l1.length : Int)) = true := decide_eq_true c5
      clear c5
      simp only [Option.some.injEq, Prod.mk.injEq] at H
      obtain ⟨rfl, rfl, rfl⟩ := H
      go_enter Try.func153, Try.ntmps153
      go_wp2_with (first | ((with_reducible refine gate_callee (f := 127) rfl ?_); refine goesL_ (some 9) rfl rfl Try.func127 (by kernel_rfl) rfl #[.pointer (some ⟨g, 0, none⟩), .int .i64 (l1.length : Int)] rfl (by (try simp only [List.map_toArray, List.map_cons, List.map_nil]); first | done | rfl | (simp only [List.length_drop, List.length_take]; rfl)) ?_; (with_reducible refine (spec_l01Next.calls g s0_0 s0_1 s0_2 (l1.length : Int) t1531001 t1531002 t1531003 w0 _ ?side1 ?side2 A3.out).mono ?_); (case side1 => repeat (first | (with_reducible first | exact HI0.out | apply IsS137.alloc | apply IsS137.drewN | apply IsS137.drew | apply IsS137.set_1 | apply IsS137.set_2) | exact HI0.out)); (case side2 => repeat (first | (with_reducible first | exact HB.out | apply below_alloc | apply pw_below_drewN | apply below_drew1 | refine below_set ?_ (IsS137.ge HI0.out)) | exact HB.out)); rintro e w6 ⟨rfl, hi, hb, hk⟩; refine ⟨_, rfl, ?_⟩; have n0_ := Aside0.mk (KeepBut.trans (by repeat (first | (with_reducible first | exact HK.out | apply KeepBut.set_ | apply keep_drewN | apply keep_drew | apply keep_alloc) | exact HK.out)) hk (.inl rfl)); have n1_ := Aside0.mk (hb); have n2_ := Aside0.mk (hi); clear HK; clear HB; clear HI0; have HK := n0_; have HB := n1_; have HI0 := n2_; clear n0_ n1_ n2_; (try clear hb); (try clear hb2); (try clear hk); (try clear hi); have p1531004 : 0 ≤ (t1531001 : Int) := of_decide_eq_true (by first | (with_reducible assumption) | assumption); have q1531004 : t1531001 < (l1.length : Int) := of_decide_eq_true (by first | (with_reducible assumption) | assumption); obtain ⟨ad1531004, e1531004, hx1531004_0⟩ := Kd.at_int HR1.out t1531001 p1531004 q1531004; cases e1531004; replace hx1531004_0 := keep_cell HK.out hx1531004_0 (by first | (rw [add_block]; exact hf1 _ rfl (by omega)) | exact hf1 _ rfl (by omega) | exact hf1 ad1531004 rfl (by omega)); replace p1531004 := eq_true p1531004; replace q1531004 := eq_true q1531004))
      go_ret
      exact ⟨by first | rfl | (simp [errW_none, errW_some] <;> rfl) | (simp [*, errW_none, errW_some] <;> rfl), by repeat (first | (with_reducible first | exact HI0.out | apply IsS137.alloc | apply IsS137.drewN | apply IsS137.drew | apply IsS137.set_1 | apply IsS137.set_2) | exact HI0.out), by repeat (first | (with_reducible first | exact HB.out | apply below_alloc | apply pw_below_drewN | apply below_drew1 | refine below_set ?_ (IsS137.ge HI0.out)) | exact HB.out), by repeat (first | (with_reducible first | exact HK.out | apply KeepBut.set_ | apply keep_drewN | apply keep_drew | apply keep_alloc) | exact HK.out)⟩
    · rw [if_neg c5] at H
      exact absurd H (by simp)
  · rw [if_neg c4] at H
    exact absurd H (by simp)
end Go.Proofs.Ytnlhhbnoccobmaa.F
end
section
namespace Go.Proofs.Ytnlhhbnoccobmaa.F
open Go.RowKit Go.Proofs.YtnlhhbnoccobmaaW.PrintWords Go.Proofs.YtnlhhbnoccobmaaW.PrintLast Go.Proofs.YtnlhhbnoccobmaaW.PrintMore
attribute [local go_sem] max2_int min2_int max_two min_two max_three min_three max_four min_four   
set_option linter.unusedVariables false
set_option linter.unusedSimpArgs false
def spec_l01Add.f (k : Nat) (l0 : List Int) (a1 : Int) (a2 : Int) : Option (List Int) := if 0 ≤ a1 then (if a1 ≤ (l0.length : Int) then ((spec_l01Own.f (l0.take (a1 : Int).toNat)).bind fun t2101002 => (if t2101002.length < 17592186044416 then ((some (t2101002 ++ [99] : List Int)).bind fun y2101005 => (if a1 ≤ a2 then (if a2 ≤ (l0.length : Int) then (if y2101005.length + ((l0.take (a2 : Int).toNat).drop (a1 : Int).toNat).length < 17592186044416 then ((some (y2101005 ++ ((l0.take (a2 : Int).toNat).drop (a1 : Int).toNat) : List Int)).bind fun y2101009 => (if y2101009.length < 17592186044416 then ((some (y2101009 ++ [99] : List Int)).bind fun y2101012 => (if 0 ≤ a2 then (if y2101012.length + (l0.drop (a2 : Int).toNat).length < 17592186044416 then ((spec_l01Normal.f k (y2101012 ++ (l0.drop (a2 : Int).toNat))).bind fun t2101019 => (some t2101019)) else (none)) else (none))) else (none))) else (none)) else (none)) else (none))) else (none))) else (none)) else (none)
theorem spec_l01Add.mono : ∀ a0 a1 a2 k, LeO (spec_l01Add.f k a0 a1 a2) (spec_l01Add.f (k + 1) a0 a1 a2) := by
 intro a0 a1 a2 k
 unfold spec_l01Add.f
 repeat' first
   | (with_reducible exact spec_l01Normal.mono _ _)
   | (with_reducible exact LeO.refl _)
   | (with_reducible exact LeO.none _)
   | (with_reducible refine LeO.ite ?_ ?_)
   | (with_reducible refine LeO.bind ?_ (fun _ => ?_))
   | exact spec_l01Normal.mono _ _
   | exact LeO.none _
   | refine LeO.ite ?_ ?_
   | refine LeO.bind ?_ (fun _ => ?_)
set_option maxHeartbeats 8000000 in
set_option maxRecDepth 100000 in
theorem spec_l01Add.calls (k : Nat) (A0 : Option Addr) (c0 : Nat) (l0 : List Int) (a1 : Int) (a2 : Int) (r : List Int) (w : World) (hr0 : Kd.C (Kd.int .i64) w A0 l0.length l0) (hc0 : l0.length ≤ c0) (h : spec_l01Add.f k l0 a1 a2 = some r) :
  Calls Try.prog 210 #[.slice A0 l0.length c0, .int .i64 a1, .int .i64 a2] w fun e w' => ∃ v0_ : Value, e = .returned (v0_) ∧ Kd.R (Kd.int .i64) 2 w' w.heap.size (fun _ => True) v0_ r ∧ Below w.heap.size w w' := by
 have HR0 := Aside0.mk hr0
 have HC0 := Aside0.mk hc0
 clear hr0 hc0
 have HB := Aside0.mk (Below.refl w.heap.size w)
 have H : (if 0 ≤ a1 then (if a1 ≤ (l0.length : Int) then ((spec_l01Own.f (l0.take (a1 : Int).toNat)).bind fun t2101002 => (if t2101002.length < 17592186044416 then ((some (t2101002 ++ [99] : List Int)).bind fun y2101005 => (if a1 ≤ a2 then (if a2 ≤ (l0.length : Int) then (if y2101005.length + ((l0.take (a2 : Int).toNat).drop (a1 : Int).toNat).length < 17592186044416 then ((some (y2101005 ++ ((l0.take (a2 : Int).toNat).drop (a1 : Int).toNat) : List Int)).bind fun y2101009 => (if y2101009.length < 17592186044416 then ((some (y2101009 ++ [99] : List Int)).bind fun y2101012 => (if 0 ≤ a2 then (if y2101012.length + (l0.drop (a2 : Int).toNat).length < 17592186044416 then ((spec_l01Normal.f k (y2101012 ++ (l0.drop (a2 : Int).toNat))).bind fun t2101019 => (some t2101019)) else (none)) else (none))) else (none))) else (none)) else (none)) else (none))) else (none))) else (none)) else (none)) = some r := h
 clear h
 by_cases c4 : 0 ≤ a1
 ·rw [if_pos c4] at H
  have c4b0 := eq_true c4
  have c4b1 : decide (0 ≤ a1) = true := decide_eq_true c4
  clear c4
  by_cases c5 : a1 ≤ (l0.length : Int)
  ·rw [if_pos c5] at H
   have c5b0 := eq_true c5
   have c5b1 : decide (a1 ≤ (l0.length : Int)) = true := decide_eq_true c5
   clear c5
   replace H := Option.bind_eq_some_iff.mp H
   obtain ⟨t2101002, A60, H⟩ := H
   replace H : (if t2101002.length < 17592186044416 then ((some (t2101002 ++ [99] : List Int)).bind fun y2101005 => (if a1 ≤ a2 then (if a2 ≤ (l0.length : Int) then (if y2101005.length + ((l0.take (a2 : Int).toNat).drop (a1 : Int).toNat).length < 17592186044416 then ((some (y2101005 ++ ((l0.take (a2 : Int).toNat).drop (a1 : Int).toNat) : List Int)).bind fun y2101009 => (if y2101009.length < 17592186044416 then ((some (y2101009 ++ [99] : List Int)).bind fun y2101012 => (if 0 ≤ a2 then (if y2101012.length + (l0.drop (a2 : Int).toNat).length < 17592186044416 then ((spec_l01Normal.f k (y2101012 ++ (l0.drop (a2 : Int).toNat))).bind fun t2101019 => (some t2101019)) else (none)) else (none))) else (none))) else (none)) else (none)) else (none))) else (none)) = some r := H
   have A6 := Aside0.mk A60
   clear A60
   by_cases c7 : t2101002.length < 17592186044416
   ·rw [if_pos c7] at H
    have LMc7 := Aside0.mk c7
    clear c7
    obtain ⟨y2101005, hy2101005⟩ : ∃ y_ : List Int, y_ = (t2101002 ++ [99]) := ⟨_, rfl⟩
    replace H : (if a1 ≤ a2 then (if a2 ≤ (l0.length : Int) then (if y2101005.length + ((l0.take (a2 : Int).toNat).drop (a1 : Int).toNat).length < 17592186044416 then ((some (y2101005 ++ ((l0.take (a2 : Int).toNat).drop (a1 : Int).toNat) : List Int)).bind fun y2101009 => (if y2101009.length < 17592186044416 then ((some (y2101009 ++ [99] : List Int)).bind fun y2101012 => (if 0 ≤ a2 then (if y2101012.length + (l0.drop (a2 : Int).toNat).length < 17592186044416 then ((spec_l01Normal.f k (y2101012 ++ (l0.drop (a2 : Int).toNat))).bind fun t2101019 => (some t2101019)) else (none)) else (none))) else (none))) else (none)) else (none)) else (none)) = some r := by first | (rw [hy2101005]; with_reducible exact H) | (have H2_ := (Option.bind_some _ _).symm.trans H; rw [hy2101005]; with_reducible exact H2_) | (have H2_ := (Option.bind_some _ _).symm.trans H; with_reducible exact H2_) | with_reducible exact H | (rw [hy2101005]; exact H) | exact H
    have Ny2101005 := Aside0.mk hy2101005
    clear hy2101005
    have c8b0 := eq_true (of_decide_eq_true (by first | (with_reducible assumption) | assumption) : 0 ≤ a1)
    by_cases c9 : a1 ≤ a2
    ·rw [if_pos c9] at H
     have c9b0 := eq_true c9
     have c9b1 : decide (a1 ≤ a2) = true := decide_eq_true c9
     clear c9
     by_cases c10 : a2 ≤ (l0.length : Int)
     ·rw [if_pos c10] at H
      have c10b0 := eq_true c10
      have c10b1 : decide (a2 ≤ (l0.length : Int)) = true := decide_eq_true c10
      clear c10
      by_cases c11 : y2101005.length + ((l0.take (a2 : Int).toNat).drop (a1 : Int).toNat).length < 17592186044416
      ·rw [if_pos c11] at H
       have LMc11 := Aside0.mk c11
       clear c11
       obtain ⟨y2101009, hy2101009⟩ : ∃ y_ : List Int, y_ = (y2101005 ++ ((l0.take (a2 : Int).toNat).drop (a1 : Int).toNat)) := ⟨_, rfl⟩
       replace H : (if y2101009.length < 17592186044416 then ((some (y2101009 ++ [99] : List Int)).bind fun y2101012 => (if 0 ≤ a2 then (if y2101012.length + (l0.drop (a2 : Int).toNat).length < 17592186044416 then ((spec_l01Normal.f k (y2101012 ++ (l0.drop (a2 : Int).toNat))).bind fun t2101019 => (some t2101019)) else (none)) else (none))) else (none)) = some r := by first | (rw [hy2101009]; with_reducible exact H) | (have H2_ := (Option.bind_some _ _).symm.trans H; rw [hy2101009]; with_reducible exact H2_) | (have H2_ := (Option.bind_some _ _).symm.trans H; with_reducible exact H2_) | with_reducible exact H | (rw [hy2101009]; exact H) | exact H
       have Ny2101009 := Aside0.mk hy2101009
       clear hy2101009
       by_cases c12 : y2101009.length < 17592186044416
       ·rw [if_pos c12] at H
        have LMc12 := Aside0.mk c12
        clear c12
        obtain ⟨y2101012, hy2101012⟩ : ∃ y_ : List Int, y_ = (y2101009 ++ [99]) := ⟨_, rfl⟩
        replace H : (if 0 ≤ a2 then (if y2101012.length + (l0.drop (a2 : Int).toNat).length < 17592186044416 then ((spec_l01Normal.f k (y2101012 ++ (l0.drop (a2 : Int).toNat))).bind fun t2101019 => (some t2101019)) else (none)) else (none)) = some r := by first | (rw [hy2101012]; with_reducible exact H) | (have H2_ := (Option.bind_some _ _).symm.trans H; rw [hy2101012]; with_reducible exact H2_) | (have H2_ := (Option.bind_some _ _).symm.trans H; with_reducible exact H2_) | with_reducible exact H | (rw [hy2101012]; exact H) | exact H
        have Ny2101012 := Aside0.mk hy2101012
        clear hy2101012
        by_cases c13 : 0 ≤ a2
        ·rw [if_pos c13] at H
         have c13b0 := eq_true c13
         have c13b1 : decide (0 ≤ a2) = true := decide_eq_true c13
         clear c13
         have c14b0 := eq_true (of_decide_eq_true (by first | (with_reducible assumption) | assumption) : a2 ≤ (l0.length : Int))
         by_cases c15 : y2101012.length + (l0.drop (a2 : Int).toNat).length < 17592186044416
         ·rw [if_pos c15] at H
          have LMc15 := Aside0.mk c15
          clear c15
          obtain ⟨y2101016, hy2101016⟩ : ∃ y_ : List Int, y_ = (y2101012 ++ (l0.drop (a2 : Int).toNat)) := ⟨_, rfl⟩
          replace H : ((spec_l01Normal.f k y2101016).bind fun t2101019 => (some t2101019)) = some r := by first | (rw [hy2101016]; with_reducible exact H) | (have H2_ := (Option.bind_some _ _).symm.trans H; rw [hy2101016]; with_reducible exact H2_) | (have H2_ := (Option.bind_some _ _).symm.trans H; with_reducible exact H2_) | with_reducible exact H | (rw [hy2101016]; exact H) | exact H
          have Ny2101016 := Aside0.mk hy2101016
          clear hy2101016
          replace H := Option.bind_eq_some_iff.mp H
          obtain ⟨t2101019, A160, H⟩ := H
          replace H : (some t2101019) = some r := H
          have A16 := Aside0.mk A160
          clear A160
          obtain rfl := Option.some.inj H
          obtain ⟨i017, hi017, _, hsz17, _⟩ := info_parts info2
          obtain ⟨hcut17, hA17, hC17⟩ := print_take_of (P := Try.prog) (Value.int .i64) 0 22 2 .i64 Try.underlying22 hi017 hsz17 A0 c0 l0 a1 (of_decide_eq_true (by first | (with_reducible assumption) | assumption)) (of_decide_eq_true (by first | (with_reducible assumption) | assumption)) HC0.out
          have HR2101001 := Aside0.mk (Kd.C_of_reads (h1 := fun _ => rfl) (hA17 _ (Kd.reads_of_C HR0.out)))
          have HC2101001 := Aside0.mk hC17
          clear hA17 hC17 hi017 hsz17
          go_enter Try.func210, Try.ntmps210
          go_wp2_with (first | ((with_reducible refine gate_callee (f := 137) rfl ?_); refine goesL_ (some 11) rfl rfl Try.func137 (by kernel_rfl) rfl #[.slice A0 (l0.take (a1 : Int).toNat).length c0] rfl (by (try simp only [List.map_toArray, List.map_cons, List.map_nil]); first | done | (rw [show (l0.take (a1 : Int).toNat).length = a1.toNat from (by rw [List.length_take]; have h_ : (a1 : Int) ≤ (l0.length : Int) := of_decide_eq_true (by first | (with_reducible assumption) | assumption); omega)] <;> rfl) | rfl | (simp only [List.length_drop, List.length_take]; rfl)) ?_; (with_reducible refine (spec_l01Own.calls _ _ (l0.take (a1 : Int).toNat) t2101002 _ ?side1 ?side2 A6.out).mono ?_); (case side1 => repeat (first | exact HR2101001.out | (with_reducible refine Kd.C_alloc ?_ _) | (with_reducible refine Kd.C_drewN ?_ _) | (with_reducible refine Kd.C_drew ?_))); (case side2 => exact HC2101001.out); rintro e w18 ⟨v2101003, rfl, ho0, hb⟩; refine ⟨_, rfl, ?_⟩; have n0_ := Aside0.mk (Kd.R_lower ho0 (below_size (by repeat (first | (with_reducible first | exact HB.out | apply below_alloc | apply pw_below_drewN | apply below_drew1) | exact HB.out)))); have n1_ := Aside0.mk (below_step (by repeat (first | (with_reducible first | exact HB.out | apply below_alloc | apply pw_below_drewN | apply below_drew1) | exact HB.out)) hb); clear HB; have HO2101004 := n0_; have HB := n1_; clear n0_ n1_; (try clear hb); (try clear hb2); (try clear hk); (try clear hi); (try clear ho0)) | ((with_reducible refine gate_builtin (b := .append) (xs := #[.tmp 11, .tmp 12]) rfl ?_); at_builtin; refine Kd.R_append (Kd.int .i64) (w0 := w) w.heap.size rfl (.tmp 11) (.tmp 12) 22 2 (.int .i64 0) 8 rfl Try.underlying22 info2 rfl (by decide) (by omega) v2101003 t2101002 99 [.int .i64 99] (fun _ => True) (fun _ => False) rfl rfl ?aP (fun _ hk => hk.elim) ?aF ?aO ?aB ?aS ?aL ?_; (case aP => exact rfl); (case aB => exact (by repeat (first | (with_reducible first | exact HB.out | apply below_alloc | apply pw_below_drewN | apply below_drew1) | exact HB.out))); (case aF => exact (fun _ _ => trivial)); (case aO => exact (by (with_reducible repeat (first | apply Kd.R_alloc | apply Kd.R_drewN | apply Kd.R_drew)); exact HO2101004.out)); (case aS => exact (below_size (by repeat (first | (with_reducible first | exact HB.out | apply below_alloc | apply pw_below_drewN | apply below_drew1) | exact HB.out)))); (case aL => have := LMc7.out; omega); intro v2101006 w19 ho hb hg hat; rw [← Ny2101005.out] at ho; have n0_ := Aside0.mk (hb); have n1_ := Aside0.mk (ho); clear HB; clear HO2101004; have HB := n0_; have HO2101007 := n1_; clear n0_ n1_; clear ho hb hg hat; obtain ⟨i020, hi020, _, hsz20, _⟩ := info_parts info2; obtain ⟨A20, hcut20, hA20, hC20⟩ := print_mid_of (P := Try.prog) (Value.int .i64) 0 22 2 .i64 .i64 Try.underlying22 hi020 hsz20 A0 c0 l0 a1 a2 (of_decide_eq_true (by first | (with_reducible assumption) | assumption)) (by first | omega | exact of_decide_eq_true (by first | (with_reducible assumption) | assumption)) (of_decide_eq_true (by first | (with_reducible assumption) | assumption)) HC0.out; have HR2101008 := Aside0.mk (Kd.C_of_reads (h1 := fun _ => rfl) (hA20 _ (Kd.reads_of_C HR0.out))); have HC2101008 := Aside0.mk hC20; clear hA20 hC20 hi020 hsz20) | ((with_reducible refine gate_builtin (b := .append) (xs := #[.tmp 14, .tmp 18]) rfl ?_); at_builtin; refine Kd.R_append_rows (Kd.int .i64) (w0 := w) w.heap.size rfl (.tmp 14) (.tmp 18) 22 2 (.int .i64 0) 8 rfl Try.underlying22 info2 rfl (by decide) (by omega) v2101006 y2101005 ((l0.take (a2 : Int).toNat).drop (a1 : Int).toNat) _ _ _ (fun _ => True) (fun _ => False) rfl rfl ?aO ?aR (fun _ _ h => h) (fun _ h => h.elim) ?aF ?aB ?aS ?aL ?_; (case aR => first | (rw [← show ((l0.take (a2 : Int).toNat).drop (a1 : Int).toNat).length = (a2.toNat - a1.toNat) from (by rw [List.length_drop, List.length_take]; have h_ : (a2 : Int) ≤ (l0.length : Int) := of_decide_eq_true (by first | (with_reducible assumption) | assumption); omega)]; repeat (first | exact (Kd.C_below HR2101008.out HB.out) | (with_reducible refine Kd.C_alloc ?_ _) | (with_reducible refine Kd.C_drewN ?_ _) | (with_reducible refine Kd.C_drew ?_))) | (repeat (first | exact (Kd.C_below HR2101008.out HB.out) | (with_reducible refine Kd.C_alloc ?_ _) | (with_reducible refine Kd.C_drewN ?_ _) | (with_reducible refine Kd.C_drew ?_)))); (case aB => exact (by repeat (first | (with_reducible first | exact HB.out | apply below_alloc | apply pw_below_drewN | apply below_drew1) | exact HB.out))); (case aF => exact (fun _ _ => trivial)); (case aO => exact (by (with_reducible repeat (first | apply Kd.R_alloc | apply Kd.R_drewN | apply Kd.R_drew)); exact HO2101007.out)); (case aS => exact (below_size (by repeat (first | (with_reducible first | exact HB.out | apply below_alloc | apply pw_below_drewN | apply below_drew1) | exact HB.out)))); (case aL => have := LMc11.out; have hlx_ := (show ((l0.take (a2 : Int).toNat).drop (a1 : Int).toNat).length = (a2.toNat - a1.toNat) from (by rw [List.length_drop, List.length_take]; have h_ : (a2 : Int) ≤ (l0.length : Int) := of_decide_eq_true (by first | (with_reducible assumption) | assumption); omega)); omega); intro v2101010 w21 ho hb hg hat; rw [← Ny2101009.out] at ho; have n0_ := Aside0.mk (hb); have n1_ := Aside0.mk (ho); clear HB; clear HO2101007; have HB := n0_; have HO2101011 := n1_; clear n0_ n1_; clear ho hb hg hat) | ((with_reducible refine gate_builtin (b := .append) (xs := #[.tmp 20, .tmp 21]) rfl ?_); at_builtin; refine Kd.R_append (Kd.int .i64) (w0 := w) w.heap.size rfl (.tmp 20) (.tmp 21) 22 2 (.int .i64 0) 8 rfl Try.underlying22 info2 rfl (by decide) (by omega) v2101010 y2101009 99 [.int .i64 99] (fun _ => True) (fun _ => False) rfl rfl ?aP (fun _ hk => hk.elim) ?aF ?aO ?aB ?aS ?aL ?_; (case aP => exact rfl); (case aB => exact (by repeat (first | (with_reducible first | exact HB.out | apply below_alloc | apply pw_below_drewN | apply below_drew1) | exact HB.out))); (case aF => exact (fun _ _ => trivial)); (case aO => exact (by (with_reducible repeat (first | apply Kd.R_alloc | apply Kd.R_drewN | apply Kd.R_drew)); exact HO2101011.out)); (case aS => exact (below_size (by repeat (first | (with_reducible first | exact HB.out | apply below_alloc | apply pw_below_drewN | apply below_drew1) | exact HB.out)))); (case aL => have := LMc12.out; omega); intro v2101013 w22 ho hb hg hat; rw [← Ny2101012.out] at ho; have n0_ := Aside0.mk (hb); have n1_ := Aside0.mk (ho); clear HB; clear HO2101011; have HB := n0_; have HO2101014 := n1_; clear n0_ n1_; clear ho hb hg hat; obtain ⟨i023, hi023, _, hsz23, _⟩ := info_parts info2; obtain ⟨A23, hcut23, hA23, hC23⟩ := print_drop_of (P := Try.prog) (Value.int .i64) 0 22 2 .i64 Try.underlying22 hi023 hsz23 A0 c0 l0 a2 (of_decide_eq_true (by first | (with_reducible assumption) | assumption)) (of_decide_eq_true (by first | (with_reducible assumption) | assumption)) HC0.out; have HR2101015 := Aside0.mk (Kd.C_of_reads (h1 := fun _ => rfl) (hA23 _ (Kd.reads_of_C HR0.out))); have HC2101015 := Aside0.mk hC23; clear hA23 hC23 hi023 hsz23) | ((with_reducible refine gate_builtin (b := .append) (xs := #[.tmp 23, .tmp 26]) rfl ?_); at_builtin; refine Kd.R_append_rows (Kd.int .i64) (w0 := w) w.heap.size rfl (.tmp 23) (.tmp 26) 22 2 (.int .i64 0) 8 rfl Try.underlying22 info2 rfl (by decide) (by omega) v2101013 y2101012 (l0.drop (a2 : Int).toNat) _ _ _ (fun _ => True) (fun _ => False) rfl rfl ?aO ?aR (fun _ _ h => h) (fun _ h => h.elim) ?aF ?aB ?aS ?aL ?_; (case aR => first | (rw [← show (l0.drop (a2 : Int).toNat).length = (l0.length - a2.toNat) from List.length_drop]; repeat (first | exact (Kd.C_below HR2101015.out HB.out) | (with_reducible refine Kd.C_alloc ?_ _) | (with_reducible refine Kd.C_drewN ?_ _) | (with_reducible refine Kd.C_drew ?_))) | (repeat (first | exact (Kd.C_below HR2101015.out HB.out) | (with_reducible refine Kd.C_alloc ?_ _) | (with_reducible refine Kd.C_drewN ?_ _) | (with_reducible refine Kd.C_drew ?_)))); (case aB => exact (by repeat (first | (with_reducible first | exact HB.out | apply below_alloc | apply pw_below_drewN | apply below_drew1) | exact HB.out))); (case aF => exact (fun _ _ => trivial)); (case aO => exact (by (with_reducible repeat (first | apply Kd.R_alloc | apply Kd.R_drewN | apply Kd.R_drew)); exact HO2101014.out)); (case aS => exact (below_size (by repeat (first | (with_reducible first | exact HB.out | apply below_alloc | apply pw_below_drewN | apply below_drew1) | exact HB.out)))); (case aL => have := LMc15.out; have hlx_ := (show (l0.drop (a2 : Int).toNat).length = (l0.length - a2.toNat) from List.length_drop); omega); intro v2101017 w24 ho hb hg hat; rw [← Ny2101016.out] at ho; have n0_ := Aside0.mk (hb); have n1_ := Aside0.mk (ho); clear HB; clear HO2101014; have HB := n0_; have HO2101018 := n1_; clear n0_ n1_; clear ho hb hg hat; obtain ⟨Ao25, co25, eo25⟩ := Kd.R_slice HO2101018.out; subst eo25) | ((with_reducible refine gate_callee (f := 177) rfl ?_); refine goesL_ (some 28) rfl rfl Try.func177 (by kernel_rfl) rfl #[.slice Ao25 y2101016.length co25] rfl (by (try simp only [List.map_toArray, List.map_cons, List.map_nil]); first | done | rfl | (simp only [List.length_drop, List.length_take]; rfl)) ?_; (with_reducible refine (spec_l01Normal.calls k _ _ y2101016 t2101019 _ ?side1 ?side2 A16.out).mono ?_); (case side1 => repeat (first | exact (Kd.R_reads' HO2101018.out).2.2 | (with_reducible refine Kd.C_alloc ?_ _) | (with_reducible refine Kd.C_drewN ?_ _) | (with_reducible refine Kd.C_drew ?_))); (case side2 => exact (Kd.R_reads' HO2101018.out).2.1); rintro e w26 ⟨v2101020, rfl, ho0, hb⟩; refine ⟨_, rfl, ?_⟩; have n0_ := Aside0.mk (Kd.R_elder' (by (with_reducible repeat (first | apply Kd.R_alloc | apply Kd.R_drewN | apply Kd.R_drew)); exact HO2101018.out) (Kd.R_base ho0) hb); have n1_ := Aside0.mk (Kd.R_lower (Kd.R_new' ho0 (Kd.R_lt (by (with_reducible repeat (first | apply Kd.R_alloc | apply Kd.R_drewN | apply Kd.R_drew)); exact HO2101018.out))) (below_size (by repeat (first | (with_reducible first | exact HB.out | apply below_alloc | apply pw_below_drewN | apply below_drew1) | exact HB.out)))); have n2_ := Aside0.mk (below_step (by repeat (first | (with_reducible first | exact HB.out | apply below_alloc | apply pw_below_drewN | apply below_drew1) | exact HB.out)) hb); clear HO2101018; clear HB; have HO2101018 := n0_; have HO2101021 := n1_; have HB := n2_; clear n0_ n1_ n2_; (try clear hb); (try clear hb2); (try clear hk); (try clear hi); (try clear ho0)))
          go_ret
          exact ⟨_, by first | rfl | (simp [errW_none, errW_some] <;> rfl) | (simp [*, errW_none, errW_some] <;> rfl), by (with_reducible repeat (first | apply Kd.R_alloc | apply Kd.R_drewN | apply Kd.R_drew)); exact Kd.R_mono HO2101021.out (fun _ hk => trivial), by repeat (first | (with_reducible first | exact HB.out | apply below_alloc | apply pw_below_drewN | apply below_drew1) | exact HB.out)⟩
         ·rw [if_neg c15] at H
          exact absurd H (by simp)
        ·rw [if_neg c13] at H
         exact absurd H (by simp)
       ·rw [if_neg c12] at H
        exact absurd H (by simp)
      ·rw [if_neg c11] at H
       exact absurd H (by simp)
     ·rw [if_neg c10] at H
      exact absurd H (by simp)
    ·rw [if_neg c9] at H
     exact absurd H (by simp)
   ·rw [if_neg c7] at H
    exact absurd H (by simp)
  ·rw [if_neg c5] at H
   exact absurd H (by simp)
 ·rw [if_neg c4] at H
  exact absurd H (by simp)
end Go.Proofs.Ytnlhhbnoccobmaa.F
end
section
namespace Go.Proofs.Ytnlhhbnoccobmaa.F
open Go.RowKit Go.Proofs.YtnlhhbnoccobmaaW.PrintWords Go.Proofs.YtnlhhbnoccobmaaW.PrintLast Go.Proofs.YtnlhhbnoccobmaaW.PrintMore
attribute [local go_sem] max2_int min2_int max_two min_two max_three min_three max_four min_four   
set_option linter.unusedVariables false
set_option linter.unusedSimpArgs false
def spec_l01DrawOf.l0 : Nat → Int → List Int → Int → List Int → Int → Int → Option (List Int × Int × Int)
 | 0, _, _, _, _, _, _ => none
 | k + 1, x1, x5, x6, x1000, x1001, x1002 => if x6 < x1 then ((spec_l01Next.f x1000 x1001 x1002 (wrap64 ((x5.length : Int) + 1))).bind fun bt1981004 => ((spec_l01Next.f x1000 bt1981004.2.1 bt1981004.2.2 (wrap64 (bt1981004.1 + 1))).bind fun bt1981007 => ((spec_l01Add.f k x5 bt1981007.1 bt1981004.1).bind fun t1981010 => (spec_l01DrawOf.l0 k x1 t1981010 (wrap64 (x6 + 1)) x1000 bt1981007.2.1 bt1981007.2.2)))) else (some (x5, x1001, x1002))
def spec_l01DrawOf.f (k : Nat) (s0_0 : List Int) (s0_1 : Int) (s0_2 : Int) (a1 : Int) : Option (List Int × Int × Int) := spec_l01DrawOf.l0 k a1 (([] : List Int)) 0 s0_0 s0_1 s0_2
theorem spec_l01DrawOf.mono_l : ∀ k, (∀ y0 y1 y2 y3 y4 y5, LeO (spec_l01DrawOf.l0 k y0 y1 y2 y3 y4 y5) (spec_l01DrawOf.l0 (k + 1) y0 y1 y2 y3 y4 y5))
 | 0 => fun _ _ _ _ _ _ r h => by simp [spec_l01DrawOf.l0] at h
 | k + 1 => by
  have ih0 := spec_l01DrawOf.mono_l k
  ·intro y0 y1 y2 y3 y4 y5
   unfold spec_l01DrawOf.l0
   repeat' first
   | (with_reducible exact ih0 _ _ _ _ _ _)
   | (with_reducible exact spec_l01Add.mono _ _ _ _)
   | (with_reducible exact LeO.refl _)
   | (with_reducible exact LeO.none _)
   | (with_reducible refine LeO.ite ?_ ?_)
   | (with_reducible refine LeO.bind ?_ (fun _ => ?_))
   | exact ih0 _ _ _ _ _ _
   | exact spec_l01Add.mono _ _ _ _
   | exact LeO.none _
   | refine LeO.ite ?_ ?_
   | refine LeO.bind ?_ (fun _ => ?_)
theorem spec_l01DrawOf.mono : ∀ a0 a1 a2 a3 k, LeO (spec_l01DrawOf.f k a0 a1 a2 a3) (spec_l01DrawOf.f (k + 1) a0 a1 a2 a3) := by
 intro a0 a1 a2 a3 k
 have ih0 := spec_l01DrawOf.mono_l k
 unfold spec_l01DrawOf.f
 repeat' first
   | (with_reducible exact ih0 _ _ _ _ _ _)
   | (with_reducible exact spec_l01Add.mono _ _ _ _)
   | (with_reducible exact LeO.refl _)
   | (with_reducible exact LeO.none _)
   | (with_reducible refine LeO.ite ?_ ?_)
   | (with_reducible refine LeO.bind ?_ (fun _ => ?_))
   | exact ih0 _ _ _ _ _ _
   | exact spec_l01Add.mono _ _ _ _
   | exact LeO.none _
   | refine LeO.ite ?_ ?_
   | refine LeO.bind ?_ (fun _ => ?_)
set_option maxHeartbeats 8000000 in
set_option maxRecDepth 100000 in
theorem spec_l01DrawOf.calls (k : Nat) (g : Nat) (s0_0 : List Int) (s0_1 : Int) (s0_2 : Int) (a1 : Int) (r1 : List Int) (r2 : Int) (r3 : Int) (w0 w : World) (hI : IsS137 w0 w g s0_0 s0_1 s0_2) (hB : Below w0.heap.size w0 w) (h : spec_l01DrawOf.f k s0_0 s0_1 s0_2 a1 = some (r1, r2, r3)) :
  Calls Try.prog 198 #[.pointer (some ⟨g, 0, none⟩), .int .i64 a1] w fun e w' => ∃ v0_ : Value, e = .returned (v0_) ∧ Kd.R (Kd.int .i64) 2 w' w.heap.size (fun _ => True) v0_ r1 ∧ IsS137 w0 w' g s0_0 r2 r3 ∧ Below w0.heap.size w0 w' ∧ KeepBut w w' g none := by
 have HI0 := Aside0.mk hI
 have HK := Aside0.mk (KeepBut.refl w g none)
 have HL := Aside0.mk hB.size
 clear hI
 have HW0 := Aside0.mk hB.size
 have HB := Aside0.mk hB
 clear hB
 have H : (spec_l01DrawOf.l0 k a1 (([] : List Int)) 0 s0_0 s0_1 s0_2) = some (r1, r2, r3) := h
 clear h
 obtain ⟨y1981001, hy1981001⟩ : ∃ y_ : List Int, y_ = (([] : List Int)) := ⟨_, rfl⟩
 replace H : (spec_l01DrawOf.l0 k a1 y1981001 0 s0_0 s0_1 s0_2) = some (r1, r2, r3) := by first | (rw [hy1981001]; with_reducible exact H) | (have H2_ := (Option.bind_some _ _).symm.trans H; rw [hy1981001]; with_reducible exact H2_) | (have H2_ := (Option.bind_some _ _).symm.trans H; with_reducible exact H2_) | with_reducible exact H | (rw [hy1981001]; exact H) | exact H
 have Ny1981001 := Aside0.mk hy1981001
 clear hy1981001
 have H' := Aside0.mk H
 clear H
 go_enter Try.func198, Try.ntmps198
 go_wp2_with (first | ((with_reducible refine gate_dst (N := 9) rfl ?_); refine Kd.R_lit (Kd.int .i64) _ 2 ?hg (N := 9) ?hd (xs := ([] : List Int)) (inner := []) (ok := fun _ => True) (okp := fun _ => True) ?hr ?hp (fun _ hk => hk) trivial (Below.refl _ _) (Nat.le_refl _) (by simp) ?_; (case hd => rfl); (case hg => rfl); (case hr => first | (go_simp; done) | (go_simp; rfl)); (case hp => exact (Reps.none _ _)); intro v1981002 w3 ho4 hb hg_ hnew_; clear hg_ hnew_; (first | rw [← Ny1981001.out] at ho4 | (simp only [Int.reduceToNat] at ho4; rw [← Ny1981001.out] at ho4)); have n0_ := Aside0.mk (Kd.R_lower ho4 (keep_size (w := w) (g := g) (row := none) (by repeat (first | (with_reducible first | exact HK.out | apply KeepBut.set_ | apply keep_drewN | apply keep_drew | apply keep_alloc) | exact HK.out)))); have n1_ := Aside0.mk (IsS137.below (by repeat (first | (with_reducible first | exact HI0.out | apply IsS137.alloc | apply IsS137.drewN | apply IsS137.drew | apply IsS137.set_1 | apply IsS137.set_2) | exact HI0.out)) hb); have n2_ := Aside0.mk (KeepBut.trans (by repeat (first | (with_reducible first | exact HK.out | apply KeepBut.set_ | apply keep_drewN | apply keep_drew | apply keep_alloc) | exact HK.out)) (KeepBut.of_below hb g none) (.inl rfl)); have n3_ := Aside0.mk (below_step (by repeat (first | (with_reducible first | exact HB.out | apply below_alloc | apply pw_below_drewN | apply below_drew1 | refine below_set ?_ (IsS137.ge HI0.out)) | exact HB.out)) hb); clear HI0; clear HK; clear HB; have HO1981003 := n0_; have HI0 := n1_; have HK := n2_; have HB := n3_; clear n0_ n1_ n2_ n3_; clear hb ho4))
 go_loopg [5, 6] k (fun kq v5 v6 w' => ∃ (x5_1 : List Int) (x6_1 : Int) (x1001_1 : Int) (x1002_1 : Int), v6 = .int .i64 x6_1 ∧ Aside0 (spec_l01DrawOf.l0 kq a1 x5_1 x6_1 s0_0 x1001_1 x1002_1 = some (r1, r2, r3)) ∧ Aside0 (kq ≤ k) ∧ Aside0 (Kd.R (Kd.int .i64) 2 w' w.heap.size (fun _ => True) v5 x5_1) ∧ Aside0 (IsS137 w0 w' g s0_0 x1001_1 x1002_1) ∧ Aside0 (KeepBut w w' g none) ∧ Aside0 (Below w0.heap.size w0 w'))
 case atStart => exact ⟨(y1981001), (0), (s0_1), (s0_2), (by first | rfl | (simp; done) | (simp [*]; done)), H', ⟨Nat.le_refl _⟩, ⟨by (with_reducible repeat (first | apply Kd.R_alloc | apply Kd.R_drewN | apply Kd.R_drew)); exact HO1981003.out⟩, ⟨by repeat (first | (with_reducible first | exact HI0.out | apply IsS137.alloc | apply IsS137.drewN | apply IsS137.drew | apply IsS137.set_1 | apply IsS137.set_2) | exact HI0.out)⟩, ⟨by repeat (first | (with_reducible first | exact HK.out | apply KeepBut.set_ | apply keep_drewN | apply keep_drew | apply keep_alloc) | exact HK.out)⟩, ⟨by repeat (first | (with_reducible first | exact HB.out | apply below_alloc | apply pw_below_drewN | apply below_drew1 | refine below_set ?_ (IsS137.ge HI0.out)) | exact HB.out)⟩⟩
 case round =>
  clear H'
  try clear c1
  try clear p2
  obtain ⟨x5_1, x6_1, x1001_1, x1002_1, rfl, HA, HK1, HO_5, HI0, HK, HB⟩ := hrel
  cases gk with
  | zero => exact absurd HA.out (by simp [spec_l01DrawOf.l0])
  | succ k1 =>
   have H := HA.out
   clear HA
   simp only [spec_l01DrawOf.l0] at H
   by_cases c5 : x6_1 < a1
   ·rw [if_pos c5] at H
    have c5b0 : decide (x6_1 < a1) = true := decide_eq_true c5
    clear c5
    replace H := Option.bind_eq_some_iff.mp H
    obtain ⟨⟨t1981004, t1981005, t1981006⟩, A60, H⟩ := H
    replace H : ((spec_l01Next.f s0_0 t1981005 t1981006 (wrap64 (t1981004 + 1))).bind fun bt1981007 => ((spec_l01Add.f k1 x5_1 bt1981007.1 t1981004).bind fun t1981010 => (spec_l01DrawOf.l0 k1 a1 t1981010 (wrap64 (x6_1 + 1)) s0_0 bt1981007.2.1 bt1981007.2.2))) = some (r1, r2, r3) := H
    have A6 := Aside0.mk A60
    clear A60
    replace H := Option.bind_eq_some_iff.mp H
    obtain ⟨⟨t1981007, t1981008, t1981009⟩, A70, H⟩ := H
    replace H : ((spec_l01Add.f k1 x5_1 t1981007 t1981004).bind fun t1981010 => (spec_l01DrawOf.l0 k1 a1 t1981010 (wrap64 (x6_1 + 1)) s0_0 t1981008 t1981009)) = some (r1, r2, r3) := H
    have A7 := Aside0.mk A70
    clear A70
    replace H := Option.bind_eq_some_iff.mp H
    obtain ⟨t1981010, A80, H⟩ := H
    replace H : (spec_l01DrawOf.l0 k1 a1 t1981010 (wrap64 (x6_1 + 1)) s0_0 t1981008 t1981009) = some (r1, r2, r3) := H
    have A8 := Aside0.mk A80
    clear A80
    have H' := Aside0.mk H
    clear H
    obtain ⟨Ao9, co9, eo9⟩ := Kd.R_slice HO_5.out
    subst eo9
    go_wp2_with (first | ((with_reducible refine gate_callee (f := 127) rfl ?_); refine goesL_ (some 19) rfl rfl Try.func127 (by kernel_rfl) rfl #[.pointer (some ⟨g, 0, none⟩), .int .i64 (wrap64 ((x5_1.length : Int) + 1))] rfl (by (try simp only [List.map_toArray, List.map_cons, List.map_nil]); first | done | rfl | (simp only [List.length_drop, List.length_take]; rfl)) ?_; (with_reducible refine (spec_l01Next.calls g s0_0 x1001_1 x1002_1 (wrap64 ((x5_1.length : Int) + 1)) t1981004 t1981005 t1981006 w0 _ ?side1 ?side2 A6.out).mono ?_); (case side1 => repeat (first | (with_reducible first | exact HI0.out | apply IsS137.alloc | apply IsS137.drewN | apply IsS137.drew | apply IsS137.set_1 | apply IsS137.set_2) | exact HI0.out)); (case side2 => repeat (first | (with_reducible first | exact HB.out | apply below_alloc | apply pw_below_drewN | apply below_drew1 | refine below_set ?_ (IsS137.ge HI0.out)) | exact HB.out)); rintro e w10 ⟨rfl, hi, hb, hk⟩; refine ⟨_, rfl, ?_⟩; have n0_ := Aside0.mk (Kd.R_mono (Kd.R_keep (IsS137.apart (show IsS137 w0 _ g s0_0 x1001_1 x1002_1 from by repeat (first | (with_reducible first | exact HI0.out | apply IsS137.alloc | apply IsS137.drewN | apply IsS137.drew | apply IsS137.set_1 | apply IsS137.set_2) | exact HI0.out)) (by (with_reducible repeat (first | apply Kd.R_alloc | apply Kd.R_drewN | apply Kd.R_drew)); exact HO_5.out) (by decide)) hk (fun _ h => h.2)) (fun _ h => h.1)); have n1_ := Aside0.mk (KeepBut.trans (by repeat (first | (with_reducible first | exact HK.out | apply KeepBut.set_ | apply keep_drewN | apply keep_drew | apply keep_alloc) | exact HK.out)) hk (.inl rfl)); have n2_ := Aside0.mk (hb); have n3_ := Aside0.mk (hi); clear HO_5; clear HK; clear HB; clear HI0; have HO_5 := n0_; have HK := n1_; have HB := n2_; have HI0 := n3_; clear n0_ n1_ n2_ n3_; (try clear hb); (try clear hb2); (try clear hk); (try clear hi)) | ((with_reducible refine gate_callee (f := 127) rfl ?_); refine goesL_ (some 23) rfl rfl Try.func127 (by kernel_rfl) rfl #[.pointer (some ⟨g, 0, none⟩), .int .i64 (wrap64 (t1981004 + 1))] rfl (by (try simp only [List.map_toArray, List.map_cons, List.map_nil]); first | done | rfl | (simp only [List.length_drop, List.length_take]; rfl)) ?_; (with_reducible refine (spec_l01Next.calls g s0_0 t1981005 t1981006 (wrap64 (t1981004 + 1)) t1981007 t1981008 t1981009 w0 _ ?side1 ?side2 A7.out).mono ?_); (case side1 => repeat (first | (with_reducible first | exact HI0.out | apply IsS137.alloc | apply IsS137.drewN | apply IsS137.drew | apply IsS137.set_1 | apply IsS137.set_2) | exact HI0.out)); (case side2 => repeat (first | (with_reducible first | exact HB.out | apply below_alloc | apply pw_below_drewN | apply below_drew1 | refine below_set ?_ (IsS137.ge HI0.out)) | exact HB.out)); rintro e w11 ⟨rfl, hi, hb, hk⟩; refine ⟨_, rfl, ?_⟩; have n0_ := Aside0.mk (Kd.R_mono (Kd.R_keep (IsS137.apart (show IsS137 w0 _ g s0_0 t1981005 t1981006 from by repeat (first | (with_reducible first | exact HI0.out | apply IsS137.alloc | apply IsS137.drewN | apply IsS137.drew | apply IsS137.set_1 | apply IsS137.set_2) | exact HI0.out)) (by (with_reducible repeat (first | apply Kd.R_alloc | apply Kd.R_drewN | apply Kd.R_drew)); exact HO_5.out) (by decide)) hk (fun _ h => h.2)) (fun _ h => h.1)); have n1_ := Aside0.mk (KeepBut.trans (by repeat (first | (with_reducible first | exact HK.out | apply KeepBut.set_ | apply keep_drewN | apply keep_drew | apply keep_alloc) | exact HK.out)) hk (.inl rfl)); have n2_ := Aside0.mk (hb); have n3_ := Aside0.mk (hi); clear HO_5; clear HK; clear HB; clear HI0; have HO_5 := n0_; have HK := n1_; have HB := n2_; have HI0 := n3_; clear n0_ n1_ n2_ n3_; (try clear hb); (try clear hb2); (try clear hk); (try clear hi)) | ((with_reducible refine gate_callee (f := 210) rfl ?_); refine goesL_ (some 27) rfl rfl Try.func210 (by kernel_rfl) rfl #[.slice Ao9 x5_1.length co9, .int .i64 t1981007, .int .i64 t1981004] rfl (by (try simp only [List.map_toArray, List.map_cons, List.map_nil]); first | done | rfl | (simp only [List.length_drop, List.length_take]; rfl)) ?_; (with_reducible refine (spec_l01Add.calls k1 _ _ x5_1 t1981007 t1981004 t1981010 _ ?side1 ?side2 A8.out).mono ?_); (case side1 => repeat (first | exact (Kd.R_reads' HO_5.out).2.2 | (with_reducible refine Kd.C_alloc ?_ _) | (with_reducible refine Kd.C_drewN ?_ _) | (with_reducible refine Kd.C_drew ?_))); (case side2 => exact (Kd.R_reads' HO_5.out).2.1); rintro e w12 ⟨v1981011, rfl, ho0, hb⟩; refine ⟨_, rfl, ?_⟩; have n0_ := Aside0.mk (Kd.R_elder' (by (with_reducible repeat (first | apply Kd.R_alloc | apply Kd.R_drewN | apply Kd.R_drew)); exact HO_5.out) (Kd.R_base ho0) hb); have n1_ := Aside0.mk (Kd.R_lower (Kd.R_new' ho0 (Kd.R_lt (by (with_reducible repeat (first | apply Kd.R_alloc | apply Kd.R_drewN | apply Kd.R_drew)); exact HO_5.out))) (keep_size (w := w) (g := g) (row := none) (by repeat (first | (with_reducible first | exact HK.out | apply KeepBut.set_ | apply keep_drewN | apply keep_drew | apply keep_alloc) | exact HK.out)))); have n2_ := Aside0.mk (IsS137.below (by repeat (first | (with_reducible first | exact HI0.out | apply IsS137.alloc | apply IsS137.drewN | apply IsS137.drew | apply IsS137.set_1 | apply IsS137.set_2) | exact HI0.out)) hb); have n3_ := Aside0.mk (KeepBut.trans (by repeat (first | (with_reducible first | exact HK.out | apply KeepBut.set_ | apply keep_drewN | apply keep_drew | apply keep_alloc) | exact HK.out)) (KeepBut.of_below hb g none) (.inl rfl)); have n4_ := Aside0.mk (below_step (by repeat (first | (with_reducible first | exact HB.out | apply below_alloc | apply pw_below_drewN | apply below_drew1 | refine below_set ?_ (IsS137.ge HI0.out)) | exact HB.out)) hb); clear HO_5; clear HI0; clear HK; clear HB; have HO_5 := n0_; have HO1981012 := n1_; have HI0 := n2_; have HK := n3_; have HB := n4_; clear n0_ n1_ n2_ n3_ n4_; (try clear hb); (try clear hb2); (try clear hk); (try clear hi); (try clear ho0)))
    go_roundg k1
    case measure => have := HK1.out; omega
    case rel => exact ⟨(t1981010), (wrap64 (x6_1 + 1)), (t1981008), (t1981009), (by first | rfl | (simp; done) | (simp [*]; done)), H', ⟨by have := HK1.out; omega⟩, ⟨by (with_reducible repeat (first | apply Kd.R_alloc | apply Kd.R_drewN | apply Kd.R_drew)); exact Kd.R_mono HO1981012.out (fun _ hk => trivial)⟩, ⟨by repeat (first | (with_reducible first | exact HI0.out | apply IsS137.alloc | apply IsS137.drewN | apply IsS137.drew | apply IsS137.set_1 | apply IsS137.set_2) | exact HI0.out)⟩, ⟨by repeat (first | (with_reducible first | exact HK.out | apply KeepBut.set_ | apply keep_drewN | apply keep_drew | apply keep_alloc) | exact HK.out)⟩, ⟨by repeat (first | (with_reducible first | exact HB.out | apply below_alloc | apply pw_below_drewN | apply below_drew1 | refine below_set ?_ (IsS137.ge HI0.out)) | exact HB.out)⟩⟩
   ·rw [if_neg c5] at H
    have c5b0 : decide (x6_1 < a1) = false := decide_eq_false c5
    clear c5
    simp only [Option.some.injEq, Prod.mk.injEq] at H
    obtain ⟨rfl, rfl, rfl⟩ := H
    go_wp2
    go_ret
    exact ⟨_, by first | rfl | (simp [errW_none, errW_some] <;> rfl) | (simp [*, errW_none, errW_some] <;> rfl), by (with_reducible repeat (first | apply Kd.R_alloc | apply Kd.R_drewN | apply Kd.R_drew)); exact HO_5.out, by repeat (first | (with_reducible first | exact HI0.out | apply IsS137.alloc | apply IsS137.drewN | apply IsS137.drew | apply IsS137.set_1 | apply IsS137.set_2) | exact HI0.out), by repeat (first | (with_reducible first | exact HB.out | apply below_alloc | apply pw_below_drewN | apply below_drew1 | refine below_set ?_ (IsS137.ge HI0.out)) | exact HB.out), by repeat (first | (with_reducible first | exact HK.out | apply KeepBut.set_ | apply keep_drewN | apply keep_drew | apply keep_alloc) | exact HK.out)⟩
end Go.Proofs.Ytnlhhbnoccobmaa.F
end
section
namespace Go.Proofs.Ytnlhhbnoccobmaa.F
open Go.RowKit Go.Proofs.YtnlhhbnoccobmaaW.PrintWords Go.Proofs.YtnlhhbnoccobmaaW.PrintLast Go.Proofs.YtnlhhbnoccobmaaW.PrintMore
attribute [local go_sem] max2_int min2_int max_two min_two max_three min_three max_four min_four   
set_option linter.unusedVariables false
set_option linter.unusedSimpArgs false
def spec_l01Draw.f (k : Nat) (s0_0 : List Int) (s0_1 : Int) (s0_2 : Int) : Option (List Int × Int × Int) := (spec_l01Pick.f s0_0 s0_1 s0_2 (([0, 1, 2, 2, 3, 3, 4, 4, 5, 6] : List Int))).bind fun bt1831004 => ((spec_l01DrawOf.f k s0_0 bt1831004.2.1 bt1831004.2.2 bt1831004.1).bind fun bt1831007 => (some (bt1831007.1, bt1831007.2.1, bt1831007.2.2)))
theorem spec_l01Draw.mono : ∀ a0 a1 a2 k, LeO (spec_l01Draw.f k a0 a1 a2) (spec_l01Draw.f (k + 1) a0 a1 a2) := by
  intro a0 a1 a2 k
  unfold spec_l01Draw.f
  repeat' first
      | (with_reducible exact spec_l01DrawOf.mono _ _ _ _ _)
      | (with_reducible exact LeO.refl _)
      | (with_reducible exact LeO.none _)
      | (with_reducible refine LeO.ite ?_ ?_)
      | (with_reducible refine LeO.bind ?_ (fun _ => ?_))
      | exact spec_l01DrawOf.mono _ _ _ _ _
      | exact LeO.none _
      | refine LeO.ite ?_ ?_
      | refine LeO.bind ?_ (fun _ => ?_)
set_option maxHeartbeats 8000000 in
set_option maxRecDepth 100000 in
theorem spec_l01Draw.calls (k : Nat) (g : Nat) (s0_0 : List Int) (s0_1 : Int) (s0_2 : Int) (r1 : List Int) (r2 : Int) (r3 : Int) (w0 w : World) (hI : IsS137 w0 w g s0_0 s0_1 s0_2) (hB : Below w0.heap.size w0 w) (h : spec_l01Draw.f k s0_0 s0_1 s0_2 = some (r1, r2, r3)) :
    Calls Try.prog 183 #[.pointer (some ⟨g, 0, none⟩)] w fun e w' => ∃ v0_ : Value, e = .returned (v0_) ∧ Kd.R (Kd.int .i64) 2 w' w.heap.size (fun _ => True) v0_ r1 ∧ IsS137 w0 w' g s0_0 r2 r3 ∧ Below w0.heap.size w0 w' ∧ KeepBut w w' g none := by
  have HI0 := Aside0.mk hI
  have HK := Aside0.mk (KeepBut.refl w g none)
  have HL := Aside0.mk hB.size
  clear hI
  have HW0 := Aside0.mk hB.size
  have HB := Aside0.mk hB
  clear hB
  have H : ((spec_l01Pick.f s0_0 s0_1 s0_2 (([0, 1, 2, 2, 3, 3, 4, 4, 5, 6] : List Int))).bind fun bt1831004 => ((spec_l01DrawOf.f k s0_0 bt1831004.2.1 bt1831004.2.2 bt1831004.1).bind fun bt1831007 => (some (bt1831007.1, bt1831007.2.1, bt1831007.2.2)))) = some (r1, r2, r3) := h
  clear h
  obtain ⟨y1831001, hy1831001⟩ : ∃ y_ : List Int, y_ = (([0, 1, 2, 2, 3, 3, 4, 4, 5, 6] : List Int)) := ⟨_, rfl⟩
  replace H : ((spec_l01Pick.f s0_0 s0_1 s0_2 y1831001).bind fun bt1831004 => ((spec_l01DrawOf.f k s0_0 bt1831004.2.1 bt1831004.2.2 bt1831004.1).bind fun bt1831007 => (some (bt1831007.1, bt1831007.2.1, bt1831007.2.2)))) = some (r1, r2, r3) := by first | (rw [hy1831001]; with_reducible exact H) | (have H2_ := (Option.bind_some _ _).symm.trans H; rw [hy1831001]; with_reducible exact H2_) | (have H2_ := (Option.bind_some _ _).symm.trans H; with_reducible exact H2_) | with_reducible exact H | (rw [hy1831001]; exact H) | exact H
  have Ny1831001 := Aside0.mk hy1831001
  clear hy1831001
  replace H := Option.bind_eq_some_iff.mp H
  obtain ⟨⟨t1831004, t1831005, t1831006⟩, A20, H⟩ := H
  replace H : ((spec_l01DrawOf.f k s0_0 t1831005 t1831006 t1831004).bind fun bt1831007 => (some (bt1831007.1, bt1831007.2.1, bt1831007.2.2))) = some (r1, r2, r3) := H
  have A2 := Aside0.mk A20
  clear A20
  replace H := Option.bind_eq_some_iff.mp H
  obtain ⟨⟨t1831007, t1831010, t1831011⟩, A30, H⟩ := H
  replace H : (some (t1831007, t1831010, t1831011)) = some (r1, r2, r3) := H
  have A3 := Aside0.mk A30
  clear A30
  simp only [Option.some.injEq, Prod.mk.injEq] at H
  obtain ⟨rfl, rfl, rfl⟩ := H
  go_enter Try.func183, Try.ntmps183
  go_wp2_with (first | ((with_reducible refine gate_dst (N := 5) rfl ?_); refine Kd.R_lit (Kd.int .i64) _ 2 ?hg (N := 5) ?hd (xs := ([0, 1, 2, 2, 3, 3, 4, 4, 5, 6] : List Int)) (inner := [.int .i64 0, .int .i64 1, .int .i64 2, .int .i64 2, .int .i64 3, .int .i64 3, .int .i64 4, .int .i64 4, .int .i64 5, .int .i64 6]) (ok := fun _ => True) (okp := fun _ => True) ?hr ?hp (fun _ hk => hk) trivial (Below.refl _ _) (Nat.le_refl _) (by simp) ?_; (case hd => rfl); (case hg => rfl); (case hr => first | (go_simp; done) | (go_simp; rfl)); (case hp => exact (Reps.one (show Kd.M (Kd.int .i64) _ _ _ 0 [.int .i64 0] from rfl) (Reps.one (show Kd.M (Kd.int .i64) _ _ _ 1 [.int .i64 1] from rfl) (Reps.one (show Kd.M (Kd.int .i64) _ _ _ 2 [.int .i64 2] from rfl) (Reps.one (show Kd.M (Kd.int .i64) _ _ _ 2 [.int .i64 2] from rfl) (Reps.one (show Kd.M (Kd.int .i64) _ _ _ 3 [.int .i64 3] from rfl) (Reps.one (show Kd.M (Kd.int .i64) _ _ _ 3 [.int .i64 3] from rfl) (Reps.one (show Kd.M (Kd.int .i64) _ _ _ 4 [.int .i64 4] from rfl) (Reps.one (show Kd.M (Kd.int .i64) _ _ _ 4 [.int .i64 4] from rfl) (Reps.one (show Kd.M (Kd.int .i64) _ _ _ 5 [.int .i64 5] from rfl) (Reps.one (show Kd.M (Kd.int .i64) _ _ _ 6 [.int .i64 6] from rfl) (Reps.none _ _)))))))))))); intro v1831002 w4 ho5 hb hg_ hnew_; clear hg_ hnew_; (first | rw [← Ny1831001.out] at ho5 | (simp only [Int.reduceToNat] at ho5; rw [← Ny1831001.out] at ho5)); have n0_ := Aside0.mk (Kd.R_lower ho5 (keep_size (w := w) (g := g) (row := none) (by repeat (first | (with_reducible first | exact HK.out | apply KeepBut.set_ | apply keep_drewN | apply keep_drew | apply keep_alloc) | exact HK.out)))); have n1_ := Aside0.mk (IsS137.below (by repeat (first | (with_reducible first | exact HI0.out | apply IsS137.alloc | apply IsS137.drewN | apply IsS137.drew | apply IsS137.set_1 | apply IsS137.set_2) | exact HI0.out)) hb); have n2_ := Aside0.mk (KeepBut.trans (by repeat (first | (with_reducible first | exact HK.out | apply KeepBut.set_ | apply keep_drewN | apply keep_drew | apply keep_alloc) | exact HK.out)) (KeepBut.of_below hb g none) (.inl rfl)); have n3_ := Aside0.mk (below_step (by repeat (first | (with_reducible first | exact HB.out | apply below_alloc | apply pw_below_drewN | apply below_drew1 | refine below_set ?_ (IsS137.ge HI0.out)) | exact HB.out)) hb); clear HI0; clear HK; clear HB; have HO1831003 := n0_; have HI0 := n1_; have HK := n2_; have HB := n3_; clear n0_ n1_ n2_ n3_; clear hb ho5; obtain ⟨Ao6, co6, eo6⟩ := Kd.R_slice HO1831003.out; subst eo6) | ((with_reducible refine gate_callee (f := 153) rfl ?_); refine goesL_ (some 6) rfl rfl Try.func153 (by kernel_rfl) rfl #[.pointer (some ⟨g, 0, none⟩), .slice Ao6 y1831001.length co6] rfl (by (try simp only [List.map_toArray, List.map_cons, List.map_nil]); first | done | rfl | (simp only [List.length_drop, List.length_take]; rfl)) ?_; (with_reducible refine (spec_l01Pick.calls g s0_0 s0_1 s0_2 _ _ y1831001 t1831004 t1831005 t1831006 w0 _ ?side1 ?side2 ?side3 ?side4 ?side5 A2.out).mono ?_); (case side1 => repeat (first | (with_reducible first | exact HI0.out | apply IsS137.alloc | apply IsS137.drewN | apply IsS137.drew | apply IsS137.set_1 | apply IsS137.set_2) | exact HI0.out)); (case side2 => repeat (first | (with_reducible first | exact HB.out | apply below_alloc | apply pw_below_drewN | apply below_drew1 | refine below_set ?_ (IsS137.ge HI0.out)) | exact HB.out)); (case side3 => repeat (first | exact (Kd.R_reads' HO1831003.out).2.2 | (with_reducible refine Kd.C_alloc ?_ _) | (with_reducible refine Kd.C_drewN ?_ _) | (with_reducible refine Kd.C_drew ?_))); (case side4 => exact (Kd.R_reads' HO1831003.out).2.1); (case side5 => exact far_slice (IsS137.own_ne HI0.out HO1831003.out (by decide))); rintro e w7 ⟨rfl, hi, hb, hk⟩; refine ⟨_, rfl, ?_⟩; have n0_ := Aside0.mk (Kd.R_mono (Kd.R_keep (IsS137.apart (show IsS137 w0 _ g s0_0 s0_1 s0_2 from by repeat (first | (with_reducible first | exact HI0.out | apply IsS137.alloc | apply IsS137.drewN | apply IsS137.drew | apply IsS137.set_1 | apply IsS137.set_2) | exact HI0.out)) (by (with_reducible repeat (first | apply Kd.R_alloc | apply Kd.R_drewN | apply Kd.R_drew)); exact HO1831003.out) (by decide)) hk (fun _ h => h.2)) (fun _ h => h.1)); have n1_ := Aside0.mk (KeepBut.trans (by repeat (first | (with_reducible first | exact HK.out | apply KeepBut.set_ | apply keep_drewN | apply keep_drew | apply keep_alloc) | exact HK.out)) hk (.inl rfl)); have n2_ := Aside0.mk (hb); have n3_ := Aside0.mk (hi); clear HO1831003; clear HK; clear HB; clear HI0; have HO1831003 := n0_; have HK := n1_; have HB := n2_; have HI0 := n3_; clear n0_ n1_ n2_ n3_; (try clear hb); (try clear hb2); (try clear hk); (try clear hi)) | ((with_reducible refine gate_callee (f := 198) rfl ?_); refine goesL_ (some 7) rfl rfl Try.func198 (by kernel_rfl) rfl #[.pointer (some ⟨g, 0, none⟩), .int .i64 t1831004] rfl (by (try simp only [List.map_toArray, List.map_cons, List.map_nil]); first | done | rfl | (simp only [List.length_drop, List.length_take]; rfl)) ?_; (with_reducible refine (spec_l01DrawOf.calls k g s0_0 t1831005 t1831006 t1831004 t1831007 t1831010 t1831011 w0 _ ?side1 ?side2 A3.out).mono ?_); (case side1 => repeat (first | (with_reducible first | exact HI0.out | apply IsS137.alloc | apply IsS137.drewN | apply IsS137.drew | apply IsS137.set_1 | apply IsS137.set_2) | exact HI0.out)); (case side2 => repeat (first | (with_reducible first | exact HB.out | apply below_alloc | apply pw_below_drewN | apply below_drew1 | refine below_set ?_ (IsS137.ge HI0.out)) | exact HB.out)); rintro e w8 ⟨v1831008, rfl, ho0, hi, hb, hk⟩; refine ⟨_, rfl, ?_⟩; have n0_ := Aside0.mk (Kd.R_mono (Kd.R_told (Kd.R_oldK (IsS137.apart (show IsS137 w0 _ g s0_0 t1831005 t1831006 from by repeat (first | (with_reducible first | exact HI0.out | apply IsS137.alloc | apply IsS137.drewN | apply IsS137.drew | apply IsS137.set_1 | apply IsS137.set_2) | exact HI0.out)) (by (with_reducible repeat (first | apply Kd.R_alloc | apply Kd.R_drewN | apply Kd.R_drew)); exact HO1831003.out) (by decide)) hk) (Kd.R_base ho0)) (fun _ h_ => h_.1)); have n1_ := Aside0.mk (Kd.R_lower (Kd.R_new' ho0 (Kd.R_lt (by (with_reducible repeat (first | apply Kd.R_alloc | apply Kd.R_drewN | apply Kd.R_drew)); exact HO1831003.out))) (keep_size (w := w) (g := g) (row := none) (by repeat (first | (with_reducible first | exact HK.out | apply KeepBut.set_ | apply keep_drewN | apply keep_drew | apply keep_alloc) | exact HK.out)))); have n2_ := Aside0.mk (KeepBut.trans (by repeat (first | (with_reducible first | exact HK.out | apply KeepBut.set_ | apply keep_drewN | apply keep_drew | apply keep_alloc) | exact HK.out)) hk (.inl rfl)); have n3_ := Aside0.mk (hb); have n4_ := Aside0.mk (hi); clear HO1831003; clear HK; clear HB; clear HI0; have HO1831003 := n0_; have HO1831009 := n1_; have HK := n2_; have HB := n3_; have HI0 := n4_; clear n0_ n1_ n2_ n3_ n4_; (try clear hb); (try clear hb2); (try clear hk); (try clear hi); (try clear ho0)))
  go_ret
  exact ⟨_, by first | rfl | (simp [errW_none, errW_some] <;> rfl) | (simp [*, errW_none, errW_some] <;> rfl), by (with_reducible repeat (first | apply Kd.R_alloc | apply Kd.R_drewN | apply Kd.R_drew)); exact Kd.R_mono HO1831009.out (fun _ hk => trivial), by repeat (first | (with_reducible first | exact HI0.out | apply IsS137.alloc | apply IsS137.drewN | apply IsS137.drew | apply IsS137.set_1 | apply IsS137.set_2) | exact HI0.out), by repeat (first | (with_reducible first | exact HB.out | apply below_alloc | apply pw_below_drewN | apply below_drew1 | refine below_set ?_ (IsS137.ge HI0.out)) | exact HB.out), by repeat (first | (with_reducible first | exact HK.out | apply KeepBut.set_ | apply keep_drewN | apply keep_drew | apply keep_alloc) | exact HK.out)⟩
end Go.Proofs.Ytnlhhbnoccobmaa.F
end
section
namespace Go.Proofs.Ytnlhhbnoccobmaa.F
open Go.RowKit Go.Proofs.YtnlhhbnoccobmaaW.PrintWords Go.Proofs.YtnlhhbnoccobmaaW.PrintLast Go.Proofs.YtnlhhbnoccobmaaW.PrintMore
attribute [local go_sem] max2_int min2_int max_two min_two max_three min_three max_four min_four   
set_option linter.unusedVariables false
set_option linter.unusedSimpArgs false
def spec_l01Join.l0 : Nat → List Int → List Int → List Int → Int → Option (List Int)
  | 0, _, _, _, _ => none
  | k + 1, x0, x1, x5, x6 => if x6 < (x1.length : Int) then (if 0 ≤ x6 then (if x5.length < 17592186044416 then (spec_l01Join.l0 k x0 x1 (x5 ++ [wrap64 ((rd x1 x6) + (wrap64 ((x0.length : Int) / 2)))]) (wrap64 (x6 + 1))) else (none)) else (none)) else (some x5)
def spec_l01Join.f (k : Nat) (l0 : List Int) (l1 : List Int) : Option (List Int) := (spec_l01Own.f l0).bind fun t2091001 => (spec_l01Join.l0 k l0 l1 t2091001 0)
theorem spec_l01Join.mono_l : ∀ k, (∀ y0 y1 y2 y3, LeO (spec_l01Join.l0 k y0 y1 y2 y3) (spec_l01Join.l0 (k + 1) y0 y1 y2 y3))
  | 0 => fun _ _ _ _ r h => by simp [spec_l01Join.l0] at h
  | k + 1 => by
    have ih0 := spec_l01Join.mono_l k
    · intro y0 y1 y2 y3
      unfold spec_l01Join.l0
      repeat' first
      | (with_reducible exact ih0 _ _ _ _)
      | (with_reducible exact LeO.refl _)
      | (with_reducible exact LeO.none _)
      | (with_reducible refine LeO.ite ?_ ?_)
      | (with_reducible refine LeO.bind ?_ (fun _ => ?_))
      | exact ih0 _ _ _ _
      | exact LeO.none _
      | refine LeO.ite ?_ ?_
      | refine LeO.bind ?_ (fun _ => ?_)
theorem spec_l01Join.mono : ∀ a0 a1 k, LeO (spec_l01Join.f k a0 a1) (spec_l01Join.f (k + 1) a0 a1) := by
  intro a0 a1 k
  have ih0 := spec_l01Join.mono_l k
  unfold spec_l01Join.f
  repeat' first
      | (with_reducible exact ih0 _ _ _ _)
      | (with_reducible exact LeO.refl _)
      | (with_reducible exact LeO.none _)
      | (with_reducible refine LeO.ite ?_ ?_)
      | (with_reducible refine LeO.bind ?_ (fun _ => ?_))
      | exact ih0 _ _ _ _
      | exact LeO.none _
      | refine LeO.ite ?_ ?_
      | refine LeO.bind ?_ (fun _ => ?_)
set_option maxHeartbeats 8000000 in
set_option maxRecDepth 100000 in
theorem spec_l01Join.calls (k : Nat) (A0 : Option Addr) (c0 : Nat) (l0 : List Int) (A1 : Option Addr) (c1 : Nat) (l1 : List Int) (r : List Int) (w : World) (hr0 : Kd.C (Kd.int .i64) w A0 l0.length l0) (hc0 : l0.length ≤ c0) (hr1 : Kd.C (Kd.int .i64) w A1 l1.length l1) (hc1 : l1.length ≤ c1) (h : spec_l01Join.f k l0 l1 = some r) :
    Calls Try.prog 209 #[.slice A0 l0.length c0, .slice A1 l1.length c1] w fun e w' => ∃ v0_ : Value, e = .returned (v0_) ∧ Kd.R (Kd.int .i64) 2 w' w.heap.size (fun _ => True) v0_ r ∧ Below w.heap.size w w' := by
  have HR0 := Aside0.mk hr0
  have HC0 := Aside0.mk hc0
  clear hr0 hc0
  have HR1 := Aside0.mk hr1
  have HC1 := Aside0.mk hc1
  clear hr1 hc1
  have HB := Aside0.mk (Below.refl w.heap.size w)
  have H : ((spec_l01Own.f l0).bind fun t2091001 => (spec_l01Join.l0 k l0 l1 t2091001 0)) = some r := h
  clear h
  replace H := Option.bind_eq_some_iff.mp H
  obtain ⟨t2091001, A30, H⟩ := H
  replace H : (spec_l01Join.l0 k l0 l1 t2091001 0) = some r := H
  have A3 := Aside0.mk A30
  clear A30
  have H' := Aside0.mk H
  clear H
  go_enter Try.func209, Try.ntmps209
  go_wp2_with (first | ((with_reducible refine gate_callee (f := 137) rfl ?_); refine goesL_ (some 8) rfl rfl Try.func137 (by kernel_rfl) rfl #[.slice A0 l0.length c0] rfl (by (try simp only [List.map_toArray, List.map_cons, List.map_nil]); first | done | rfl | (simp only [List.length_drop, List.length_take]; rfl)) ?_; (with_reducible refine (spec_l01Own.calls _ _ l0 t2091001 _ ?side1 ?side2 A3.out).mono ?_); (case side1 => repeat (first | exact HR0.out | (with_reducible refine Kd.C_alloc ?_ _) | (with_reducible refine Kd.C_drewN ?_ _) | (with_reducible refine Kd.C_drew ?_))); (case side2 => exact HC0.out); rintro e w4 ⟨v2091002, rfl, ho0, hb⟩; refine ⟨_, rfl, ?_⟩; have n0_ := Aside0.mk (Kd.R_lower ho0 (below_size (by repeat (first | (with_reducible first | exact HB.out | apply below_alloc | apply pw_below_drewN | apply below_drew1) | exact HB.out)))); have n1_ := Aside0.mk (below_step (by repeat (first | (with_reducible first | exact HB.out | apply below_alloc | apply pw_below_drewN | apply below_drew1) | exact HB.out)) hb); clear HB; have HO2091003 := n0_; have HB := n1_; clear n0_ n1_; (try clear hb); (try clear hb2); (try clear hk); (try clear hi); (try clear ho0)))
  go_loopg [5, 6] k (fun kq v5 v6 w' => ∃ (x5_1 : List Int) (x6_1 : Int), v6 = .int .i64 x6_1 ∧ Aside0 (spec_l01Join.l0 kq l0 l1 x5_1 x6_1 = some r) ∧ Aside0 (kq ≤ k) ∧ Aside0 (Kd.R (Kd.int .i64) 2 w' w.heap.size (fun _ => True) v5 x5_1) ∧ Aside0 (Below w.heap.size w w'))
  case atStart => exact ⟨(t2091001), (0), (by first | rfl | (simp; done) | (simp [*]; done)), H', ⟨Nat.le_refl _⟩, ⟨by (with_reducible repeat (first | apply Kd.R_alloc | apply Kd.R_drewN | apply Kd.R_drew)); exact HO2091003.out⟩, ⟨by repeat (first | (with_reducible first | exact HB.out | apply below_alloc | apply pw_below_drewN | apply below_drew1) | exact HB.out)⟩⟩
  case round =>
    clear H'
    try clear c1
    try clear c2
    try clear p2
    obtain ⟨x5_1, x6_1, rfl, HA, HK1, HO_5, HB⟩ := hrel
    cases gk with
    | zero => exact absurd HA.out (by simp [spec_l01Join.l0])
    | succ k1 =>
      have H := HA.out
      clear HA
      simp only [spec_l01Join.l0] at H
      by_cases c5 : x6_1 < (l1.length : Int)
      · rw [if_pos c5] at H
        have c5b0 : decide (x6_1 < (l1.length : Int)) = true := decide_eq_true c5
        clear c5
        by_cases c6 : 0 ≤ x6_1
        · rw [if_pos c6] at H
          have c6b0 : decide (0 ≤ x6_1) = true := decide_eq_true c6
          clear c6
          by_cases c7 : x5_1.length < 17592186044416
          · rw [if_pos c7] at H
            have LMc7 := Aside0.mk c7
            clear c7
            obtain ⟨y2091005, hy2091005⟩ : ∃ y_ : List Int, y_ = (x5_1 ++ [wrap64 ((rd l1 x6_1) + (wrap64 ((l0.length : Int) / 2)))]) := ⟨_, rfl⟩
            replace H : (spec_l01Join.l0 k1 l0 l1 y2091005 (wrap64 (x6_1 + 1))) = some r := by first | (rw [hy2091005]; with_reducible exact H) | (have H2_ := (Option.bind_some _ _).symm.trans H; rw [hy2091005]; with_reducible exact H2_) | (have H2_ := (Option.bind_some _ _).symm.trans H; with_reducible exact H2_) | with_reducible exact H | (rw [hy2091005]; exact H) | exact H
            have Ny2091005 := Aside0.mk hy2091005
            clear hy2091005
            have H' := Aside0.mk H
            clear H
            have p2091004 : 0 ≤ (x6_1 : Int) := of_decide_eq_true (by first | (with_reducible assumption) | assumption)
            have q2091004 : x6_1 < (l1.length : Int) := of_decide_eq_true (by first | (with_reducible assumption) | assumption)
            obtain ⟨ad2091004, e2091004, hx2091004_0⟩ := Kd.at_int HR1.out x6_1 p2091004 q2091004
            cases e2091004
            replace hx2091004_0 := (HB.out.cell (World.block_lt_of_cell? w _ hx2091004_0)).trans hx2091004_0
            replace p2091004 := eq_true p2091004
            replace q2091004 := eq_true q2091004
            go_wp2_with (first | ((with_reducible refine gate_builtin (b := .append) (xs := #[.tmp 15, .tmp 24]) rfl ?_); at_builtin; refine Kd.R_append (Kd.int .i64) (w0 := w) w.heap.size rfl (.tmp 15) (.tmp 24) 22 2 (.int .i64 0) 8 rfl Try.underlying22 info2 rfl (by decide) (by omega) u5 x5_1 (wrap64 ((rd l1 x6_1) + (wrap64 ((l0.length : Int) / 2)))) [.int .i64 (wrap64 ((rd l1 x6_1) + (wrap64 ((l0.length : Int) / 2))))] (fun _ => True) (fun _ => False) rfl rfl ?aP (fun _ hk => hk.elim) ?aF ?aO ?aB ?aS ?aL ?_; (case aP => exact rfl); (case aB => exact (by repeat (first | (with_reducible first | exact HB.out | apply below_alloc | apply pw_below_drewN | apply below_drew1) | exact HB.out))); (case aF => exact (fun _ _ => trivial)); (case aO => exact (by (with_reducible repeat (first | apply Kd.R_alloc | apply Kd.R_drewN | apply Kd.R_drew)); exact HO_5.out)); (case aS => exact (below_size (by repeat (first | (with_reducible first | exact HB.out | apply below_alloc | apply pw_below_drewN | apply below_drew1) | exact HB.out)))); (case aL => have := LMc7.out; omega); intro v2091006 w8 ho hb hg hat; rw [← Ny2091005.out] at ho; have n0_ := Aside0.mk (hb); have n1_ := Aside0.mk (ho); clear HB; clear HO_5; have HB := n0_; have HO2091007 := n1_; clear n0_ n1_; clear ho hb hg hat))
            go_roundg k1
            case measure => have := HK1.out; omega
            case rel => exact ⟨(y2091005), (wrap64 (x6_1 + 1)), (by first | rfl | (simp; done) | (simp [*]; done)), H', ⟨by have := HK1.out; omega⟩, ⟨by (with_reducible repeat (first | apply Kd.R_alloc | apply Kd.R_drewN | apply Kd.R_drew)); exact HO2091007.out⟩, ⟨by repeat (first | (with_reducible first | exact HB.out | apply below_alloc | apply pw_below_drewN | apply below_drew1) | exact HB.out)⟩⟩
          · rw [if_neg c7] at H
            exact absurd H (by simp)
        · rw [if_neg c6] at H
          exact absurd H (by simp)
      · rw [if_neg c5] at H
        have c5b0 : decide (x6_1 < (l1.length : Int)) = false := decide_eq_false c5
        clear c5
        obtain rfl := Option.some.inj H
        go_wp2
        go_ret
        exact ⟨_, by first | rfl | (simp [errW_none, errW_some] <;> rfl) | (simp [*, errW_none, errW_some] <;> rfl), by (with_reducible repeat (first | apply Kd.R_alloc | apply Kd.R_drewN | apply Kd.R_drew)); exact HO_5.out, by repeat (first | (with_reducible first | exact HB.out | apply below_alloc | apply pw_below_drewN | apply below_drew1) | exact HB.out)⟩
end Go.Proofs.Ytnlhhbnoccobmaa.F
end
