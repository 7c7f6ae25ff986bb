/- What spec_l02Parts answers, and that the Go text comes to it: for every world in which the arguments read as told. -/
import Derived.Test.YtnlhhbnoccobmaaFgA
namespace Go.Proofs.Ytnlhhbnoccobmaa.F
open Go.RowKit Go.Proofs.YtnlhhbnoccobmaaW.PrintWords Go.Proofs.YtnlhhbnoccobmaaW.PrintLast Go.Proofs.YtnlhhbnoccobmaaW.PrintMore
attribute [local go_sem] max2_int min2_int max_two min_two max_three min_three max_four min_four   -- for this text's walks alone
set_option linter.unusedVariables false
set_option linter.unusedSimpArgs false

/-! ### spec_l02Parts: function 172 -/
mutual
def spec_l02Parts.l0 : Nat → List (List Int) → List Bool → List (List Int) → Int → Option ((List (List Int)))
 | 0, _, _, _, _ => none
 | k + 1, x0, x3, x4, x5 => if x5 < (x0.length : Int) then (if 0 ≤ x5 then (if x5 < (x3.length : Int) then (if rdOf false x3 x5 = true then (spec_l02Parts.l0 k x0 x3 x4 (wrap64 (x5 + 1))) else (if 0 ≤ (x0.length : Int) then (if ((x0.length : Int) : Int).toNat ≤ 281474976710656 then ((some (List.replicate ((x0.length : Int) : Int).toNat false : List Bool)).bind fun y1721008 => (if x5 < (y1721008.length : Int) then (spec_l02Parts.l1 k x0 x3 x4 x5 (y1721008.set (x5 : Int).toNat true) true) else (none))) else (none)) else (none))) else (none)) else (none)) else (some x4)
def spec_l02Parts.l1 : Nat → List (List Int) → List Bool → List (List Int) → Int → List Bool → Bool → Option ((List (List Int)))
 | 0, _, _, _, _, _, _ => none
 | k + 1, x0, x3, x4, x5, x6, x7 => if x7 = true then (spec_l02Parts.l2 k x0 x3 x4 x5 x6 false 0) else (spec_l02Parts.l4 k x0 x3 x4 x5 x6 (([] : List Int)) 0)
def spec_l02Parts.l2 : Nat → List (List Int) → List Bool → List (List Int) → Int → List Bool → Bool → Int → Option ((List (List Int)))
 | 0, _, _, _, _, _, _, _ => none
 | k + 1, x0, x3, x4, x5, x6, x7, x8 => if x8 < (x0.length : Int) then (spec_l02Parts.l3 k x0 x3 x4 x5 x6 x7 x8 0) else (spec_l02Parts.l1 k x0 x3 x4 x5 x6 x7)
def spec_l02Parts.l3 : Nat → List (List Int) → List Bool → List (List Int) → Int → List Bool → Bool → Int → Int → Option ((List (List Int)))
 | 0, _, _, _, _, _, _, _, _ => none
 | k + 1, x0, x3, x4, x5, x6, x7, x8, x9 => if x9 < (x0.length : Int) then (if 0 ≤ x8 then (if x8 < (x6.length : Int) then (spec_l02Parts.j4 k x0 x3 x4 x5 x6 x7 x8 x9 (rdOf false x6 x8)) else (none)) else (none)) else (spec_l02Parts.j4 k x0 x3 x4 x5 x6 x7 x8 x9 false)
def spec_l02Parts.j4 : Nat → List (List Int) → List Bool → List (List Int) → Int → List Bool → Bool → Int → Int → Bool → Option ((List (List Int)))
 | 0, _, _, _, _, _, _, _, _, _ => none
 | k + 1, x0, x3, x4, x5, x6, x7, x8, x9, x48 => if x48 = true then (if 0 ≤ x8 then (if x8 < (x0.length : Int) then (if 0 ≤ x9 then (if x9 < ((rd_L1 x0 x8).length : Int) then (if (rd (rd_L1 x0 x8) x9) = 1 then (if x9 < (x6.length : Int) then (if rdOf false x6 x9 = true then (spec_l02Parts.l3 k x0 x3 x4 x5 x6 x7 x8 (wrap64 (x9 + 1))) else (spec_l02Parts.l3 k x0 x3 x4 x5 (x6.set (x9 : Int).toNat true) true x8 (wrap64 (x9 + 1)))) else (none)) else (spec_l02Parts.l3 k x0 x3 x4 x5 x6 x7 x8 (wrap64 (x9 + 1)))) else (none)) else (none)) else (none)) else (none)) else (spec_l02Parts.l2 k x0 x3 x4 x5 x6 x7 (wrap64 (x8 + 1)))
def spec_l02Parts.l4 : Nat → List (List Int) → List Bool → List (List Int) → Int → List Bool → List Int → Int → Option ((List (List Int)))
 | 0, _, _, _, _, _, _, _ => none
 | k + 1, x0, x3, x4, x5, x6, x10, x11 => if x11 < (x0.length : Int) then (if 0 ≤ x11 then (if x11 < (x6.length : Int) then (if rdOf false x6 x11 = true then (if x11 < (x3.length : Int) then (if x10.length < 17592186044416 then (spec_l02Parts.l4 k x0 (x3.set (x11 : Int).toNat true) x4 x5 x6 (x10 ++ [x11]) (wrap64 (x11 + 1))) else (none)) else (none)) else (spec_l02Parts.l4 k x0 x3 x4 x5 x6 x10 (wrap64 (x11 + 1)))) else (none)) else (none)) else (if x4.length < 5864062014805 then (spec_l02Parts.l0 k x0 x3 (x4 ++ [x10]) (wrap64 (x5 + 1))) else (none))
end
def spec_l02Parts.f (k : Nat) (l0 : List (List Int)) : Option ((List (List Int))) := if 0 ≤ (l0.length : Int) then (if ((l0.length : Int) : Int).toNat ≤ 281474976710656 then (spec_l02Parts.l0 k l0 (List.replicate ((l0.length : Int) : Int).toNat false) (([] : List (List Int))) 0) else (none)) else (none)
theorem spec_l02Parts.mono_l : ∀ k, (∀ y0 y1 y2 y3, LeO (spec_l02Parts.l0 k y0 y1 y2 y3) (spec_l02Parts.l0 (k + 1) y0 y1 y2 y3)) ∧ (∀ y0 y1 y2 y3 y4 y5, LeO (spec_l02Parts.l1 k y0 y1 y2 y3 y4 y5) (spec_l02Parts.l1 (k + 1) y0 y1 y2 y3 y4 y5)) ∧ (∀ y0 y1 y2 y3 y4 y5 y6, LeO (spec_l02Parts.l2 k y0 y1 y2 y3 y4 y5 y6) (spec_l02Parts.l2 (k + 1) y0 y1 y2 y3 y4 y5 y6)) ∧ (∀ y0 y1 y2 y3 y4 y5 y6 y7, LeO (spec_l02Parts.l3 k y0 y1 y2 y3 y4 y5 y6 y7) (spec_l02Parts.l3 (k + 1) y0 y1 y2 y3 y4 y5 y6 y7)) ∧ (∀ y0 y1 y2 y3 y4 y5 y6 y7 y8, LeO (spec_l02Parts.j4 k y0 y1 y2 y3 y4 y5 y6 y7 y8) (spec_l02Parts.j4 (k + 1) y0 y1 y2 y3 y4 y5 y6 y7 y8)) ∧ (∀ y0 y1 y2 y3 y4 y5 y6, LeO (spec_l02Parts.l4 k y0 y1 y2 y3 y4 y5 y6) (spec_l02Parts.l4 (k + 1) y0 y1 y2 y3 y4 y5 y6))
 | 0 => ⟨fun _ _ _ _ r h => by simp [spec_l02Parts.l0] at h, fun _ _ _ _ _ _ r h => by simp [spec_l02Parts.l1] at h, fun _ _ _ _ _ _ _ r h => by simp [spec_l02Parts.l2] at h, fun _ _ _ _ _ _ _ _ r h => by simp [spec_l02Parts.l3] at h, fun _ _ _ _ _ _ _ _ _ r h => by simp [spec_l02Parts.j4] at h, fun _ _ _ _ _ _ _ r h => by simp [spec_l02Parts.l4] at h⟩
 | k + 1 => by
  obtain ⟨ih0, ih1, ih2, ih3, ih4, ih5⟩ := spec_l02Parts.mono_l k
  refine ⟨?_, ?_, ?_, ?_, ?_, ?_⟩
  ·intro y0 y1 y2 y3
   unfold spec_l02Parts.l0
   repeat' first
   | (with_reducible exact ih0 _ _ _ _)
   | (with_reducible exact ih1 _ _ _ _ _ _)
   | (with_reducible exact ih2 _ _ _ _ _ _ _)
   | (with_reducible exact ih3 _ _ _ _ _ _ _ _)
   | (with_reducible exact ih4 _ _ _ _ _ _ _ _ _)
   | (with_reducible exact ih5 _ _ _ _ _ _ _)
   | (with_reducible exact LeO.refl _)
   | (with_reducible exact LeO.none _)
   | (with_reducible refine LeO.ite ?_ ?_)
   | (with_reducible refine LeO.bind ?_ (fun _ => ?_))
   | exact ih0 _ _ _ _
   | exact ih1 _ _ _ _ _ _
   | exact ih2 _ _ _ _ _ _ _
   | exact ih3 _ _ _ _ _ _ _ _
   | exact ih4 _ _ _ _ _ _ _ _ _
   | exact ih5 _ _ _ _ _ _ _
   | exact LeO.none _
   | refine LeO.ite ?_ ?_
   | refine LeO.bind ?_ (fun _ => ?_)
  ·intro y0 y1 y2 y3 y4 y5
   unfold spec_l02Parts.l1
   repeat' first
   | (with_reducible exact ih0 _ _ _ _)
   | (with_reducible exact ih1 _ _ _ _ _ _)
   | (with_reducible exact ih2 _ _ _ _ _ _ _)
   | (with_reducible exact ih3 _ _ _ _ _ _ _ _)
   | (with_reducible exact ih4 _ _ _ _ _ _ _ _ _)
   | (with_reducible exact ih5 _ _ _ _ _ _ _)
   | (with_reducible exact LeO.refl _)
   | (with_reducible exact LeO.none _)
   | (with_reducible refine LeO.ite ?_ ?_)
   | (with_reducible refine LeO.bind ?_ (fun _ => ?_))
   | exact ih0 _ _ _ _
   | exact ih1 _ _ _ _ _ _
   | exact ih2 _ _ _ _ _ _ _
   | exact ih3 _ _ _ _ _ _ _ _
   | exact ih4 _ _ _ _ _ _ _ _ _
   | exact ih5 _ _ _ _ _ _ _
   | exact LeO.none _
   | refine LeO.ite ?_ ?_
   | refine LeO.bind ?_ (fun _ => ?_)
  ·intro y0 y1 y2 y3 y4 y5 y6
   unfold spec_l02Parts.l2
   repeat' first
   | (with_reducible exact ih0 _ _ _ _)
   | (with_reducible exact ih1 _ _ _ _ _ _)
   | (with_reducible exact ih2 _ _ _ _ _ _ _)
   | (with_reducible exact ih3 _ _ _ _ _ _ _ _)
   | (with_reducible exact ih4 _ _ _ _ _ _ _ _ _)
   | (with_reducible exact ih5 _ _ _ _ _ _ _)
   | (with_reducible exact LeO.refl _)
   | (with_reducible exact LeO.none _)
   | (with_reducible refine LeO.ite ?_ ?_)
   | (with_reducible refine LeO.bind ?_ (fun _ => ?_))
   | exact ih0 _ _ _ _
   | exact ih1 _ _ _ _ _ _
   | exact ih2 _ _ _ _ _ _ _
   | exact ih3 _ _ _ _ _ _ _ _
   | exact ih4 _ _ _ _ _ _ _ _ _
   | exact ih5 _ _ _ _ _ _ _
   | exact LeO.none _
   | refine LeO.ite ?_ ?_
   | refine LeO.bind ?_ (fun _ => ?_)
  ·intro y0 y1 y2 y3 y4 y5 y6 y7
   unfold spec_l02Parts.l3
   repeat' first
   | (with_reducible exact ih0 _ _ _ _)
   | (with_reducible exact ih1 _ _ _ _ _ _)
   | (with_reducible exact ih2 _ _ _ _ _ _ _)
   | (with_reducible exact ih3 _ _ _ _ _ _ _ _)
   | (with_reducible exact ih4 _ _ _ _ _ _ _ _ _)
   | (with_reducible exact ih5 _ _ _ _ _ _ _)
   | (with_reducible exact LeO.refl _)
   | (with_reducible exact LeO.none _)
   | (with_reducible refine LeO.ite ?_ ?_)
   | (with_reducible refine LeO.bind ?_ (fun _ => ?_))
   | exact ih0 _ _ _ _
   | exact ih1 _ _ _ _ _ _
   | exact ih2 _ _ _ _ _ _ _
   | exact ih3 _ _ _ _ _ _ _ _
   | exact ih4 _ _ _ _ _ _ _ _ _
   | exact ih5 _ _ _ _ _ _ _
   | exact LeO.none _
   | refine LeO.ite ?_ ?_
   | refine LeO.bind ?_ (fun _ => ?_)
  ·intro y0 y1 y2 y3 y4 y5 y6 y7 y8
   unfold spec_l02Parts.j4
   repeat' first
   | (with_reducible exact ih0 _ _ _ _)
   | (with_reducible exact ih1 _ _ _ _ _ _)
   | (with_reducible exact ih2 _ _ _ _ _ _ _)
   | (with_reducible exact ih3 _ _ _ _ _ _ _ _)
   | (with_reducible exact ih4 _ _ _ _ _ _ _ _ _)
   | (with_reducible exact ih5 _ _ _ _ _ _ _)
   | (with_reducible exact LeO.refl _)
   | (with_reducible exact LeO.none _)
   | (with_reducible refine LeO.ite ?_ ?_)
   | (with_reducible refine LeO.bind ?_ (fun _ => ?_))
   | exact ih0 _ _ _ _
   | exact ih1 _ _ _ _ _ _
   | exact ih2 _ _ _ _ _ _ _
   | exact ih3 _ _ _ _ _ _ _ _
   | exact ih4 _ _ _ _ _ _ _ _ _
   | exact ih5 _ _ _ _ _ _ _
   | exact LeO.none _
   | refine LeO.ite ?_ ?_
   | refine LeO.bind ?_ (fun _ => ?_)
  ·intro y0 y1 y2 y3 y4 y5 y6
   unfold spec_l02Parts.l4
   repeat' first
   | (with_reducible exact ih0 _ _ _ _)
   | (with_reducible exact ih1 _ _ _ _ _ _)
   | (with_reducible exact ih2 _ _ _ _ _ _ _)
   | (with_reducible exact ih3 _ _ _ _ _ _ _ _)
   | (with_reducible exact ih4 _ _ _ _ _ _ _ _ _)
   | (with_reducible exact ih5 _ _ _ _ _ _ _)
   | (with_reducible exact LeO.refl _)
   | (with_reducible exact LeO.none _)
   | (with_reducible refine LeO.ite ?_ ?_)
   | (with_reducible refine LeO.bind ?_ (fun _ => ?_))
   | exact ih0 _ _ _ _
   | exact ih1 _ _ _ _ _ _
   | exact ih2 _ _ _ _ _ _ _
   | exact ih3 _ _ _ _ _ _ _ _
   | exact ih4 _ _ _ _ _ _ _ _ _
   | exact ih5 _ _ _ _ _ _ _
   | exact LeO.none _
   | refine LeO.ite ?_ ?_
   | refine LeO.bind ?_ (fun _ => ?_)
theorem spec_l02Parts.mono : ∀ a0 k, LeO (spec_l02Parts.f k a0) (spec_l02Parts.f (k + 1) a0) := by
 intro a0 k
 obtain ⟨ih0, ih1, ih2, ih3, ih4, ih5⟩ := spec_l02Parts.mono_l k
 unfold spec_l02Parts.f
 repeat' first
   | (with_reducible exact ih0 _ _ _ _)
   | (with_reducible exact ih1 _ _ _ _ _ _)
   | (with_reducible exact ih2 _ _ _ _ _ _ _)
   | (with_reducible exact ih3 _ _ _ _ _ _ _ _)
   | (with_reducible exact ih4 _ _ _ _ _ _ _ _ _)
   | (with_reducible exact ih5 _ _ _ _ _ _ _)
   | (with_reducible exact LeO.refl _)
   | (with_reducible exact LeO.none _)
   | (with_reducible refine LeO.ite ?_ ?_)
   | (with_reducible refine LeO.bind ?_ (fun _ => ?_))
   | exact ih0 _ _ _ _
   | exact ih1 _ _ _ _ _ _
   | exact ih2 _ _ _ _ _ _ _
   | exact ih3 _ _ _ _ _ _ _ _
   | exact ih4 _ _ _ _ _ _ _ _ _
   | exact ih5 _ _ _ _ _ _ _
   | exact LeO.none _
   | refine LeO.ite ?_ ?_
   | refine LeO.bind ?_ (fun _ => ?_)
set_option maxHeartbeats 8000000 in
set_option maxRecDepth 100000 in
theorem spec_l02Parts.calls (k : Nat) (A0 : Option Addr) (c0 : Nat) (l0 : List (List Int)) (r : List (List Int)) (w : World) (hr0 : Kd.C (Kd.slice 2 (Kd.int .i64)) w A0 l0.length l0) (hc0 : l0.length ≤ c0) (h : spec_l02Parts.f k l0 = some r) :
  Calls Try.prog 172 #[.slice A0 l0.length c0] w fun e w' => ∃ v0_ : Value, e = .returned (v0_) ∧ Kd.S (Kd.slice 2 (Kd.int .i64)) 22 w' w.heap.size (fun _ => True) v0_ r ∧ Below w.heap.size w w' := by
 have HR0 := Aside0.mk hr0
 have HC0 := Aside0.mk hc0
 clear hr0 hc0
 have HB := Aside0.mk (Below.refl w.heap.size w)
 have H : (if 0 ≤ (l0.length : Int) then (if ((l0.length : Int) : Int).toNat ≤ 281474976710656 then (spec_l02Parts.l0 k l0 (List.replicate ((l0.length : Int) : Int).toNat false) (([] : List (List Int))) 0) else (none)) else (none)) = some r := h
 clear h
 by_cases c2 : 0 ≤ (l0.length : Int)
 ·rw [if_pos c2] at H
  have c2b0 := eq_true c2
  have c2b1 : decide (0 ≤ (l0.length : Int)) = true := decide_eq_true c2
  clear c2
  by_cases c3 : ((l0.length : Int) : Int).toNat ≤ 281474976710656
  ·rw [if_pos c3] at H
   have c3b0 := eq_true c3
   have c3b1 : decide (((l0.length : Int) : Int).toNat ≤ 281474976710656) = true := decide_eq_true c3
   clear c3
   obtain ⟨y1721001, hy1721001⟩ : ∃ y_ : List Bool, y_ = (List.replicate ((l0.length : Int) : Int).toNat false) := ⟨_, rfl⟩
   replace H : (spec_l02Parts.l0 k l0 y1721001 (([] : List (List Int))) 0) = some r := by first | (rw [hy1721001]; with_reducible exact H) | (have H2_ := (Option.bind_some _ _).symm.trans H; rw [hy1721001]; with_reducible exact H2_) | (have H2_ := (Option.bind_some _ _).symm.trans H; with_reducible exact H2_) | with_reducible exact H | (rw [hy1721001]; exact H) | exact H
   have Ny1721001 := Aside0.mk hy1721001
   clear hy1721001
   obtain ⟨y1721004, hy1721004⟩ : ∃ y_ : List (List Int), y_ = (([] : List (List Int))) := ⟨_, rfl⟩
   replace H : (spec_l02Parts.l0 k l0 y1721001 y1721004 0) = some r := by first | (rw [hy1721004]; with_reducible exact H) | (have H2_ := (Option.bind_some _ _).symm.trans H; rw [hy1721004]; with_reducible exact H2_) | (have H2_ := (Option.bind_some _ _).symm.trans H; with_reducible exact H2_) | with_reducible exact H | (rw [hy1721004]; exact H) | exact H
   have Ny1721004 := Aside0.mk hy1721004
   clear hy1721004
   have H' := Aside0.mk H
   clear H
   go_enter Try.func172, Try.ntmps172
   go_wp2_with (first | ((with_reducible refine gate_dst (N := 14) rfl ?_); refine Kd.R_make Kd.bool _ 4 rfl (N := 14) rfl 149 _ _ rfl (l0.length : Int) rfl rfl Try.underlying149 (.bool false) 1 info4 rfl (by decide) (by omega) false (ok := fun _ => True) (okp := fun _ => True) rfl (fun _ hk => hk) trivial (of_decide_eq_true (by first | (with_reducible assumption) | assumption)) (Nat.le_trans (Nat.mul_le_mul_right _ (of_decide_eq_true (by first | (with_reducible assumption) | assumption) : (l0.length : Int).toNat ≤ 281474976710656)) (by omega)) (Below.refl _ _) (Nat.le_refl _) ?_; intro v1721002 w4 ho5 hb hg_ hnew_; clear hg_ hnew_; (first | rw [← Ny1721001.out] at ho5 | (simp only [Int.reduceToNat] at ho5; rw [← Ny1721001.out] at ho5)); have n0_ := Aside0.mk (Kd.R_lower ho5 (below_size (by repeat (first | (with_reducible first | exact HB.out | apply below_alloc | apply pw_below_drewN | apply below_drew1) | exact HB.out)))); have n1_ := Aside0.mk (below_step (by repeat (first | (with_reducible first | exact HB.out | apply below_alloc | apply pw_below_drewN | apply below_drew1) | exact HB.out)) hb); clear HB; have HO1721003 := n0_; have HB := n1_; clear n0_ n1_; clear hb ho5) | ((with_reducible refine gate_dst (N := 15) rfl ?_); refine Kd.S_lit (Kd.slice 2 (Kd.int .i64)) _ 22 ?hg (N := 15) ?hd (xs := ([] : List (List Int))) (inner := []) (ok := fun _ => True) (okp := fun _ => True) ?hr ?hp (fun _ hk => hk) trivial (Below.refl _ _) (Nat.le_refl _) (by simp) ?_; (case hd => rfl); (case hg => rfl); (case hr => first | (go_simp; done) | (go_simp; rfl)); (case hp => exact (Reps.none _ _)); intro v1721005 w6 ho7 hb hg_ hnew_; clear hg_ hnew_; (first | rw [← Ny1721004.out] at ho7 | (simp only [Int.reduceToNat] at ho7; rw [← Ny1721004.out] at ho7)); have n0_ := Aside0.mk (Kd.R_below (by (with_reducible repeat (first | apply Kd.R_alloc | apply Kd.R_drewN | apply Kd.R_drew)); exact HO1721003.out) hb); have n1_ := Aside0.mk (Kd.S_lower ho7 (below_size (by repeat (first | (with_reducible first | exact HB.out | apply below_alloc | apply pw_below_drewN | apply below_drew1) | exact HB.out)))); have n2_ := Aside0.mk (below_step (by repeat (first | (with_reducible first | exact HB.out | apply below_alloc | apply pw_below_drewN | apply below_drew1) | exact HB.out)) hb); clear HO1721003; clear HB; have HO1721003 := n0_; have HO1721006 := n1_; have HB := n2_; clear n0_ n1_ n2_; clear hb ho7))
   go_loopg [4, 5] k (fun kq v4 v5 w' => ∃ (x3_1 : List Bool) (x4_1 : List (List Int)) (x5_1 : Int), v5 = .int .i64 x5_1 ∧ Aside0 (spec_l02Parts.l0 kq l0 x3_1 x4_1 x5_1 = some r) ∧ Aside0 (kq ≤ k) ∧ Aside0 (Kd.R Kd.bool 4 w' w.heap.size (fun _ => True) v1721002 x3_1) ∧ Aside0 (Kd.S (Kd.slice 2 (Kd.int .i64)) 22 w' w.heap.size (fun _ => True) v4 x4_1) ∧ Aside0 (Below w.heap.size w w'))
   case atStart => exact ⟨(y1721001), (y1721004), (0), (by first | rfl | (simp; done) | (simp [*]; done)), H', ⟨Nat.le_refl _⟩, ⟨by (with_reducible repeat (first | apply Kd.R_alloc | apply Kd.R_drewN | apply Kd.R_drew)); exact HO1721003.out⟩, ⟨by (with_reducible repeat (first | apply Kd.S_alloc | apply Kd.S_drewN | apply Kd.S_drew)); exact HO1721006.out⟩, ⟨by repeat (first | (with_reducible first | exact HB.out | apply below_alloc | apply pw_below_drewN | apply below_drew1) | exact HB.out)⟩⟩
   case round =>
    clear H'
    try clear c1
    try clear c2
    try clear c2b0
    try clear c2b1
    try clear p2
    try clear c3
    try clear c3b0
    try clear c3b1
    obtain ⟨x3_1, x4_1, x5_1, rfl, HA, HK1, HO_3, HO_4, HB⟩ := hrel
    cases gk with
    | zero => exact absurd HA.out (by simp [spec_l02Parts.l0])
    | succ k1 =>
     have H := HA.out
     clear HA
     simp only [spec_l02Parts.l0] at H
     by_cases c8 : x5_1 < (l0.length : Int)
     ·rw [if_pos c8] at H
      have c8b0 : decide (x5_1 < (l0.length : Int)) = true := decide_eq_true c8
      clear c8
      by_cases c9 : 0 ≤ x5_1
      ·rw [if_pos c9] at H
       have c9b0 : decide (0 ≤ x5_1) = true := decide_eq_true c9
       clear c9
       by_cases c10 : x5_1 < (x3_1.length : Int)
       ·rw [if_pos c10] at H
        have c10b0 : decide (x5_1 < (x3_1.length : Int)) = true := decide_eq_true c10
        clear c10
        obtain ⟨bq11, hbq11⟩ : ∃ b_ : Bool, b_ = (rdOf false x3_1 x5_1) := ⟨_, rfl⟩
        replace H : (if bq11 = true then (spec_l02Parts.l0 k1 l0 x3_1 x4_1 (wrap64 (x5_1 + 1))) else (if 0 ≤ (l0.length : Int) then (if ((l0.length : Int) : Int).toNat ≤ 281474976710656 then ((some (List.replicate ((l0.length : Int) : Int).toNat false : List Bool)).bind fun y1721008 => (if x5_1 < (y1721008.length : Int) then (spec_l02Parts.l1 k1 l0 x3_1 x4_1 x5_1 (y1721008.set (x5_1 : Int).toNat true) true) else (none))) else (none)) else (none))) = some r := by rw [← hbq11] at H; exact H
        have Nbq11 := Aside0.mk hbq11
        clear hbq11
        by_cases c12 : bq11 = true
        ·subst c12
         have H1 : (spec_l02Parts.l0 k1 l0 x3_1 x4_1 (wrap64 (x5_1 + 1))) = some r := by rw [if_pos rfl] at H; exact H
         clear H
         have H := H1
         clear H1
         have H' := Aside0.mk H
         clear H
         obtain ⟨Ao13, co13, eo13⟩ := Kd.R_slice HO_3.out
         subst eo13
         have p1721007 : 0 ≤ (x5_1 : Int) := of_decide_eq_true (by first | (with_reducible assumption) | assumption)
         have q1721007 : x5_1 < (x3_1.length : Int) := of_decide_eq_true (by first | (with_reducible assumption) | assumption)
         obtain ⟨ad1721007, e1721007, hx1721007_0⟩ := Kd.at_bool (Kd.R_reads' HO_3.out).2.2 x5_1 p1721007 q1721007
         (try rw [← Nbq11.out] at hx1721007_0)
         cases e1721007
         replace p1721007 := eq_true p1721007
         replace q1721007 := eq_true q1721007
         go_wp2
         go_roundg k1
         case measure => have := HK1.out; omega
         case rel => exact ⟨(x3_1), (x4_1), (wrap64 (x5_1 + 1)), (by first | rfl | (simp; done) | (simp [*]; done)), H', ⟨by have := HK1.out; omega⟩, ⟨by (with_reducible repeat (first | apply Kd.R_alloc | apply Kd.R_drewN | apply Kd.R_drew)); exact HO_3.out⟩, ⟨by (with_reducible repeat (first | apply Kd.S_alloc | apply Kd.S_drewN | apply Kd.S_drew)); exact HO_4.out⟩, ⟨by repeat (first | (with_reducible first | exact HB.out | apply below_alloc | apply pw_below_drewN | apply below_drew1) | exact HB.out)⟩⟩
        ·replace c12 := Bool.eq_false_iff.mpr c12
         subst c12
         have H1 : (if 0 ≤ (l0.length : Int) then (if ((l0.length : Int) : Int).toNat ≤ 281474976710656 then ((some (List.replicate ((l0.length : Int) : Int).toNat false : List Bool)).bind fun y1721008 => (if x5_1 < (y1721008.length : Int) then (spec_l02Parts.l1 k1 l0 x3_1 x4_1 x5_1 (y1721008.set (x5_1 : Int).toNat true) true) else (none))) else (none)) else (none)) = some r := by rw [if_neg (show ¬ (false = true) by decide)] at H; exact H
         clear H
         have H := H1
         clear H1
         by_cases c14 : 0 ≤ (l0.length : Int)
         ·rw [if_pos c14] at H
          have c14b0 := eq_true c14
          have c14b1 : decide (0 ≤ (l0.length : Int)) = true := decide_eq_true c14
          clear c14
          by_cases c15 : ((l0.length : Int) : Int).toNat ≤ 281474976710656
          ·rw [if_pos c15] at H
           have c15b0 := eq_true c15
           have c15b1 : decide (((l0.length : Int) : Int).toNat ≤ 281474976710656) = true := decide_eq_true c15
           clear c15
           obtain ⟨y1721008, hy1721008⟩ : ∃ y_ : List Bool, y_ = (List.replicate ((l0.length : Int) : Int).toNat false) := ⟨_, rfl⟩
           replace H : (if x5_1 < (y1721008.length : Int) then (spec_l02Parts.l1 k1 l0 x3_1 x4_1 x5_1 (y1721008.set (x5_1 : Int).toNat true) true) else (none)) = some r := by first | (rw [hy1721008]; with_reducible exact H) | (have H2_ := (Option.bind_some _ _).symm.trans H; rw [hy1721008]; with_reducible exact H2_) | (have H2_ := (Option.bind_some _ _).symm.trans H; with_reducible exact H2_) | with_reducible exact H | (rw [hy1721008]; exact H) | exact H
           have Ny1721008 := Aside0.mk hy1721008
           clear hy1721008
           by_cases c16 : x5_1 < (y1721008.length : Int)
           ·rw [if_pos c16] at H
            have c16b0 : decide (x5_1 < (y1721008.length : Int)) = true := decide_eq_true c16
            clear c16
            obtain ⟨y1721011, hy1721011⟩ : ∃ y_ : List Bool, y_ = (y1721008.set (x5_1 : Int).toNat true) := ⟨_, rfl⟩
            replace H : (spec_l02Parts.l1 k1 l0 x3_1 x4_1 x5_1 y1721011 true) = some r := by first | (rw [hy1721011]; with_reducible exact H) | (have H2_ := (Option.bind_some _ _).symm.trans H; rw [hy1721011]; with_reducible exact H2_) | (have H2_ := (Option.bind_some _ _).symm.trans H; with_reducible exact H2_) | with_reducible exact H | (rw [hy1721011]; exact H) | exact H
            have Ny1721011 := Aside0.mk hy1721011
            clear hy1721011
            have H' := Aside0.mk H
            clear H
            obtain ⟨Ao18, co18, eo18⟩ := Kd.R_slice HO_3.out
            subst eo18
            have p1721007 : 0 ≤ (x5_1 : Int) := of_decide_eq_true (by first | (with_reducible assumption) | assumption)
            have q1721007 : x5_1 < (x3_1.length : Int) := of_decide_eq_true (by first | (with_reducible assumption) | assumption)
            obtain ⟨ad1721007, e1721007, hx1721007_0⟩ := Kd.at_bool (Kd.R_reads' HO_3.out).2.2 x5_1 p1721007 q1721007
            (try rw [← Nbq11.out] at hx1721007_0)
            cases e1721007
            replace p1721007 := eq_true p1721007
            replace q1721007 := eq_true q1721007
            go_wp2_with (first | ((with_reducible refine gate_dst (N := 28) rfl ?_); refine Kd.R_make Kd.bool _ 4 rfl (N := 28) rfl 149 _ _ rfl (l0.length : Int) rfl rfl Try.underlying149 (.bool false) 1 info4 rfl (by decide) (by omega) false (ok := fun _ => True) (okp := fun _ => True) rfl (fun _ hk => hk) trivial (of_decide_eq_true (by first | (with_reducible assumption) | assumption)) (Nat.le_trans (Nat.mul_le_mul_right _ (of_decide_eq_true (by first | (with_reducible assumption) | assumption) : (l0.length : Int).toNat ≤ 281474976710656)) (by omega)) (Below.refl _ _) (Nat.le_refl _) ?_; intro v1721009 w19 ho20 hb hg_ hnew_; clear hg_ hnew_; (first | rw [← Ny1721008.out] at ho20 | (simp only [Int.reduceToNat] at ho20; rw [← Ny1721008.out] at ho20)); have n0_ := Aside0.mk (Kd.R_elder' (by (with_reducible repeat (first | apply Kd.R_alloc | apply Kd.R_drewN | apply Kd.R_drew)); exact HO_3.out) (Kd.R_base ho20) hb); have n1_ := Aside0.mk (Kd.S_below (by (with_reducible repeat (first | apply Kd.S_alloc | apply Kd.S_drewN | apply Kd.S_drew)); exact HO_4.out) hb); have n2_ := Aside0.mk (Kd.R_lower (Kd.R_new' ho20 (Kd.R_lt (by (with_reducible repeat (first | apply Kd.R_alloc | apply Kd.R_drewN | apply Kd.R_drew)); exact HO_3.out))) (below_size (by repeat (first | (with_reducible first | exact HB.out | apply below_alloc | apply pw_below_drewN | apply below_drew1) | exact HB.out)))); have n3_ := Aside0.mk (below_step (by repeat (first | (with_reducible first | exact HB.out | apply below_alloc | apply pw_below_drewN | apply below_drew1) | exact HB.out)) hb); clear HO_3; clear HO_4; clear HB; have HO_3 := n0_; have HO_4 := n1_; have HO1721010 := n2_; have HB := n3_; clear n0_ n1_ n2_ n3_; clear hb ho20; have p17 : 0 ≤ (x5_1 : Int) := of_decide_eq_true (by first | (with_reducible assumption) | assumption); have q17 : (x5_1 : Int) < ((y1721008.length : Int) : Int) := of_decide_eq_true (by first | (with_reducible assumption) | assumption); obtain ⟨go17, co17, eo17, gb17, gl17, cl17, HG17⟩ := Kd.R_form HO1721010.out (by omega); (first | cases eo17 | (injection eo17 with ea_ en_ ec_; (first | subst ea_ | (injection ea_ with ea_; subst ea_)); subst ec_; clear en_)); have GB17 := Aside0.mk gb17; have GG17 := Aside0.mk HG17; clear gb17 gl17 HG17; obtain ⟨hx17_0, hf17_0⟩ := Kd.R_celln false HO1721010.out (x5_1 : Int) p17 q17; replace p17 := eq_true p17; replace q17 := eq_true q17; have n_ := Aside0.mk (Kd.R_mono (ok' := (fun k_ => some k_ ≠ (.slice (some ad1721007) x3_1.length co18 : Value).ownBlock)) HO1721010.out (fun k_ hk => hk.2)); clear HO1721010; have HO1721010 := n_; clear n_; obtain ⟨hy21_, hz21_⟩ := Kd.R_celln false HO1721010.out (x5_1 : Int) (of_decide_eq_true (by first | (with_reducible assumption) | assumption)) (of_decide_eq_true (by first | (with_reducible assumption) | assumption)); have HP21 := Kd.R_putg HO1721010.out (x5_1 : Int) true) | ((with_reducible refine gate_store (t := 4) (p := 31) rfl ?_); refine store_event (t := 4) (p := 31) (v := ?vo_w22) (w1 := (w19.setCell ⟨go17, (x5_1 : Int).toNat, none⟩ (.bool true))) ?hg ?ho ?hn ?hr ?_; (case ho => rfl); (case hg => rfl); (case hn => rfl); (case hr => first | (go_simp; done) | (go_simp; rfl)); intro w22 hw; have hg : w19.grownBy w22 (some go17) := (by rw [hw]; exact HP21.2); have hp_ : Kd.R Kd.bool 4 w22 w.heap.size (fun k_ => some k_ ≠ (.slice (some ad1721007) x3_1.length co18 : Value).ownBlock) (.slice (some ⟨go17, 0, none⟩) y1721008.length co17) y1721011 := (by rw [hw, Ny1721011.out]; exact HP21.1); clear HP21; have n0_ := Aside0.mk (Kd.R_after (v := (.slice (some ⟨go17, 0, none⟩) y1721008.length co17)) (v1 := (.slice (some ⟨go17, 0, none⟩) y1721008.length co17)) (ok := (fun _ => True)) (by (with_reducible repeat (first | apply Kd.R_alloc | apply Kd.R_drewN | apply Kd.R_drew)); exact HO_3.out) hg (.inl rfl)); have n1_ := Aside0.mk (Kd.S_over' (v := (.slice (some ⟨go17, 0, none⟩) y1721008.length co17)) (by (with_reducible repeat (first | apply Kd.S_alloc | apply Kd.S_drewN | apply Kd.S_drew)); exact HO_4.out) (Kd.R_typed HO1721010.out) (by decide) hg); have n2_ := Aside0.mk (hp_); have n3_ := Aside0.mk ((by rw [hw]; exact below_set (HB.out) GB17.out : Below w.heap.size w w22)); clear HO_3; clear HO_4; clear HO1721010; clear HB; have HO_3 := n0_; have HO_4 := n1_; have HO1721010 := n2_; have HB := n3_; clear n0_ n1_ n2_ n3_; clear hg hw hp_))
            go_loopg [7] k1 (fun kq v7 w' => ∃ (x6_2 : List Bool) (x7_2 : Bool), v7 = .bool x7_2 ∧ Aside0 (spec_l02Parts.l1 kq l0 x3_1 x4_1 x5_1 x6_2 x7_2 = some r) ∧ Aside0 (kq ≤ k1) ∧ Aside0 (Kd.R Kd.bool 4 w' w.heap.size (fun k_ => some k_ ≠ ((.slice (some ⟨go17, 0, none⟩) y1721008.length co17) : Value).ownBlock) (.slice (some ad1721007) x3_1.length co18) x3_1) ∧ Aside0 (Kd.S (Kd.slice 2 (Kd.int .i64)) 22 w' w.heap.size (fun _ => True) u4 x4_1) ∧ Aside0 (Kd.R Kd.bool 4 w' w.heap.size (fun k_ => some k_ ≠ ((.slice (some ad1721007) x3_1.length co18) : Value).ownBlock) (.slice (some ⟨go17, 0, none⟩) y1721008.length co17) x6_2) ∧ Aside0 (Below w.heap.size w w'))
            case atStart => exact ⟨(y1721011), (true), (by first | rfl | (simp; done) | (simp [*]; done)), H', ⟨Nat.le_refl _⟩, ⟨by (with_reducible repeat (first | apply Kd.R_alloc | apply Kd.R_drewN | apply Kd.R_drew)); exact Kd.R_mono HO_3.out (fun _ hk => hk.2)⟩, ⟨by (with_reducible repeat (first | apply Kd.S_alloc | apply Kd.S_drewN | apply Kd.S_drew)); exact HO_4.out⟩, ⟨by (with_reducible repeat (first | apply Kd.R_alloc | apply Kd.R_drewN | apply Kd.R_drew)); exact HO1721010.out⟩, ⟨by repeat (first | (with_reducible first | exact HB.out | apply below_alloc | apply pw_below_drewN | apply below_drew1) | exact HB.out)⟩⟩
            case round =>
             clear H'
             try clear c1
             try clear p1
             try clear q1
             try clear hx1
             try clear hf1
             try clear c2
             try clear c2b0
             try clear c2b1
             try clear p2
             try clear c3
             try clear c3b0
             try clear c3b1
             try clear p6
             try clear c8
             try clear c8b0
             try clear c9
             try clear c9b0
             try clear c10
             try clear c10b0
             try clear q11
             try clear c12
             try clear c14
             try clear c14b0
             try clear c14b1
             try clear c15
             try clear c15b0
             try clear c15b1
             try clear c16
             try clear c16b0
             try clear c17
             try clear p17
             try clear q17
             try clear hx17
             try clear hf17
             try clear hx1721007_0
             try clear hx17_0
             try clear p17
             try clear p1721007
             try clear p2
             try clear q17
             try clear q1721007
             obtain ⟨x6_2, x7_2, rfl, HA, HK2, HO_3, HO_4, HO_6, HB⟩ := hrel
             have hl6_2 := (Kd.R_reads' HO_6.out).1
             rw [hl6_2] at HO_6
             (try simp only [hl6_2])
             (try simp only [hl6_2] at HO_3)
             (try simp only [hl6_2] at HO_4)
             cases gk with
             | zero => exact absurd HA.out (by simp [spec_l02Parts.l1])
             | succ k2 =>
              have H := HA.out
              clear HA
              simp only [spec_l02Parts.l1] at H
              by_cases c23 : x7_2 = true
              ·subst c23
               have H1 : (spec_l02Parts.l2 k2 l0 x3_1 x4_1 x5_1 x6_2 false 0) = some r := by rw [if_pos rfl] at H; exact H
               clear H
               have H := H1
               clear H1
               have H' := Aside0.mk H
               clear H
               go_wp2
               go_loopg [7, 8] k2 (fun kq v7 v8 w' => ∃ (x6_3 : List Bool) (x7_3 : Bool) (x8_3 : Int), v7 = .bool x7_3 ∧ v8 = .int .i64 x8_3 ∧ Aside0 (spec_l02Parts.l2 kq l0 x3_1 x4_1 x5_1 x6_3 x7_3 x8_3 = some r) ∧ Aside0 (kq ≤ k2) ∧ Aside0 (Kd.R Kd.bool 4 w' w.heap.size (fun k_ => some k_ ≠ ((.slice (some ⟨go17, 0, none⟩) x6_2.length co17) : Value).ownBlock) (.slice (some ad1721007) x3_1.length co18) x3_1) ∧ Aside0 (Kd.S (Kd.slice 2 (Kd.int .i64)) 22 w' w.heap.size (fun _ => True) u4 x4_1) ∧ Aside0 (Kd.R Kd.bool 4 w' w.heap.size (fun k_ => some k_ ≠ ((.slice (some ad1721007) x3_1.length co18) : Value).ownBlock) (.slice (some ⟨go17, 0, none⟩) x6_2.length co17) x6_3) ∧ Aside0 (Below w.heap.size w w'))
               case atStart => exact ⟨(x6_2), (false), (0), (by first | rfl | (simp; done) | (simp [*]; done)), (by first | rfl | (simp; done) | (simp [*]; done)), H', ⟨Nat.le_refl _⟩, ⟨by (try simp only [hl6_2]); (with_reducible repeat (first | apply Kd.R_alloc | apply Kd.R_drewN | apply Kd.R_drew)); exact HO_3.out⟩, ⟨by (try simp only [hl6_2]); (with_reducible repeat (first | apply Kd.S_alloc | apply Kd.S_drewN | apply Kd.S_drew)); exact HO_4.out⟩, ⟨by (try simp only [hl6_2]); (with_reducible repeat (first | apply Kd.R_alloc | apply Kd.R_drewN | apply Kd.R_drew)); exact HO_6.out⟩, ⟨by repeat (first | (with_reducible first | exact HB.out | apply below_alloc | apply pw_below_drewN | apply below_drew1) | exact HB.out)⟩⟩
               case round =>
                clear H'
                try clear c1
                try clear p1
                try clear q1
                try clear hx1
                try clear hf1
                try clear c2
                try clear c2b0
                try clear c2b1
                try clear p2
                try clear c3
                try clear c3b0
                try clear c3b1
                try clear p6
                try clear c8
                try clear c8b0
                try clear c9
                try clear c9b0
                try clear c10
                try clear c10b0
                try clear q11
                try clear c12
                try clear c14
                try clear c14b0
                try clear c14b1
                try clear c15
                try clear c15b0
                try clear c15b1
                try clear c16
                try clear c16b0
                try clear c17
                try clear p17
                try clear q17
                try clear hx17
                try clear hf17
                try clear c23
                try clear hx1721007_0
                try clear hx17_0
                try clear p1
                try clear p17
                try clear p1721007
                try clear p2
                try clear p6
                try clear q1
                try clear q11
                try clear q17
                try clear q1721007
                obtain ⟨x6_3, x7_3, x8_3, rfl, rfl, HA, HK3, HO_3, HO_4, HO_6, HB⟩ := hrel
                have hl6_3 := (Kd.R_reads' HO_6.out).1
                rw [hl6_3] at HO_6
                (try simp only [hl6_3])
                (try simp only [hl6_3] at HO_3)
                (try simp only [hl6_3] at HO_4)
                cases gk with
                | zero => exact absurd HA.out (by simp [spec_l02Parts.l2])
                | succ k3 =>
                 have H := HA.out
                 clear HA
                 simp only [spec_l02Parts.l2] at H
                 by_cases c24 : x8_3 < (l0.length : Int)
                 ·rw [if_pos c24] at H
                  have c24b0 : decide (x8_3 < (l0.length : Int)) = true := decide_eq_true c24
                  clear c24
                  have H' := Aside0.mk H
                  clear H
                  go_wp2
                  go_loopg [7, 9] k3 (fun kq v7 v9 w' => ∃ (x6_4 : List Bool) (x7_4 : Bool) (x9_4 : Int), v7 = .bool x7_4 ∧ v9 = .int .i64 x9_4 ∧ Aside0 (spec_l02Parts.l3 kq l0 x3_1 x4_1 x5_1 x6_4 x7_4 x8_3 x9_4 = some r) ∧ Aside0 (kq ≤ k3) ∧ Aside0 (Kd.R Kd.bool 4 w' w.heap.size (fun k_ => some k_ ≠ ((.slice (some ⟨go17, 0, none⟩) x6_3.length co17) : Value).ownBlock) (.slice (some ad1721007) x3_1.length co18) x3_1) ∧ Aside0 (Kd.S (Kd.slice 2 (Kd.int .i64)) 22 w' w.heap.size (fun _ => True) u4 x4_1) ∧ Aside0 (Kd.R Kd.bool 4 w' w.heap.size (fun k_ => some k_ ≠ ((.slice (some ad1721007) x3_1.length co18) : Value).ownBlock) (.slice (some ⟨go17, 0, none⟩) x6_3.length co17) x6_4) ∧ Aside0 (Below w.heap.size w w'))
                  case atStart => exact ⟨(x6_3), (x7_3), (0), (by first | rfl | (simp; done) | (simp [*]; done)), (by first | rfl | (simp; done) | (simp [*]; done)), H', ⟨Nat.le_refl _⟩, ⟨by (try simp only [hl6_2]); (try simp only [hl6_3]); (with_reducible repeat (first | apply Kd.R_alloc | apply Kd.R_drewN | apply Kd.R_drew)); exact HO_3.out⟩, ⟨by (try simp only [hl6_2]); (try simp only [hl6_3]); (with_reducible repeat (first | apply Kd.S_alloc | apply Kd.S_drewN | apply Kd.S_drew)); exact HO_4.out⟩, ⟨by (try simp only [hl6_2]); (try simp only [hl6_3]); (with_reducible repeat (first | apply Kd.R_alloc | apply Kd.R_drewN | apply Kd.R_drew)); exact HO_6.out⟩, ⟨by repeat (first | (with_reducible first | exact HB.out | apply below_alloc | apply pw_below_drewN | apply below_drew1) | exact HB.out)⟩⟩
                  case round =>
                   clear H'
                   try clear c1
                   try clear p1
                   try clear q1
                   try clear hx1
                   try clear hf1
                   try clear c2
                   try clear c2b0
                   try clear c2b1
                   try clear p2
                   try clear c3
                   try clear c3b0
                   try clear c3b1
                   try clear p6
                   try clear c8
                   try clear c8b0
                   try clear c9
                   try clear c9b0
                   try clear c10
                   try clear c10b0
                   try clear q11
                   try clear c12
                   try clear c14
                   try clear c14b0
                   try clear c14b1
                   try clear c15
                   try clear c15b0
                   try clear c15b1
                   try clear c16
                   try clear c16b0
                   try clear c17
                   try clear p17
                   try clear q17
                   try clear hx17
                   try clear hf17
                   try clear c23
                   try clear c24
                   try clear c24b0
                   try clear hx1721007_0
                   try clear hx17_0
                   try clear p1
                   try clear p17
                   try clear p1721007
                   try clear p2
                   try clear p6
                   try clear q1
                   try clear q11
                   try clear q17
                   try clear q1721007
                   obtain ⟨x6_4, x7_4, x9_4, rfl, rfl, HA, HK4, HO_3, HO_4, HO_6, HB⟩ := hrel
                   have hl6_4 := (Kd.R_reads' HO_6.out).1
                   rw [hl6_4] at HO_6
                   (try simp only [hl6_4])
                   (try simp only [hl6_4] at HO_3)
                   (try simp only [hl6_4] at HO_4)
                   cases gk with
                   | zero => exact absurd HA.out (by simp [spec_l02Parts.l3])
                   | succ k4 =>
                    have H := HA.out
                    clear HA
                    simp only [spec_l02Parts.l3] at H
                    have HC25 := Aside0.mk H
                    clear H
                    go_upto_region 15 with (fail)
                    go_cut [48] (fun v48 wc => ∃ (kq : Nat) (x48_24 : Bool), v48 = .bool x48_24 ∧ Aside0 (spec_l02Parts.j4 kq l0 x3_1 x4_1 x5_1 x6_4 x7_4 x8_3 x9_4 x48_24 = some r) ∧ Aside0 (kq ≤ k4) ∧ Aside0 (Kd.R Kd.bool 4 wc w.heap.size (fun k_ => some k_ ≠ ((.slice (some ⟨go17, 0, none⟩) x6_4.length co17) : Value).ownBlock) (.slice (some ad1721007) x3_1.length co18) x3_1) ∧ Aside0 (Kd.S (Kd.slice 2 (Kd.int .i64)) 22 wc w.heap.size (fun _ => True) u4 x4_1) ∧ Aside0 (Kd.R Kd.bool 4 wc w.heap.size (fun k_ => some k_ ≠ ((.slice (some ad1721007) x3_1.length co18) : Value).ownBlock) (.slice (some ⟨go17, 0, none⟩) x6_4.length co17) x6_4) ∧ Aside0 (Below w.heap.size w wc))
                    case first =>
                     have H := HC25.out
                     clear HC25
                     by_cases c26 : x9_4 < (l0.length : Int)
                     ·rw [if_pos c26] at H
                      have c26b0 : decide (x9_4 < (l0.length : Int)) = true := decide_eq_true c26
                      clear c26
                      (first | rw [c26b0] | (simp only [i64_w, i32_w]; rw [c26b0]) | skip)
                      by_cases c27 : 0 ≤ x8_3
                      ·rw [if_pos c27] at H
                       have c27b0 : decide (0 ≤ x8_3) = true := decide_eq_true c27
                       clear c27
                       by_cases c28 : x8_3 < (x6_4.length : Int)
                       ·rw [if_pos c28] at H
                        have c28b0 : decide (x8_3 < (x6_4.length : Int)) = true := decide_eq_true c28
                        clear c28
                        have H' := Aside0.mk H
                        clear H
                        have p1721012 : 0 ≤ (x8_3 : Int) := of_decide_eq_true (by first | (with_reducible assumption) | assumption)
                        have q1721012 : x8_3 < (x6_4.length : Int) := of_decide_eq_true (by first | (with_reducible assumption) | assumption)
                        obtain ⟨ad1721012, e1721012, hx1721012_0⟩ := Kd.at_bool (Kd.R_reads' HO_6.out).2.2 x8_3 p1721012 q1721012
                        (try rw [← Nbq11.out] at hx1721012_0)
                        obtain rfl : (⟨go17, 0, none⟩ : Addr) = ad1721012 := (by injection e1721012)
                        (first | simp only [add_plain] at hx1721012_0 | simp only [add_at] at hx1721012_0 | simp only [Addr.add, Nat.zero_add] at hx1721012_0 | skip)
                        replace p1721012 := eq_true p1721012
                        replace q1721012 := eq_true q1721012
                        go_wp2
                        go_meet
                        case rel => exact ⟨_, (rdOf false x6_4 x8_3), (by first | rfl | (simp; done) | (simp [*]; done)), H', ⟨by have := HK1.out; have := HK2.out; have := HK3.out; have := HK4.out; first | omega | exact Nat.le_refl _⟩, ⟨by (try simp only [hl6_2]); (try simp only [hl6_3]); (try simp only [hl6_4]); (with_reducible repeat (first | apply Kd.R_alloc | apply Kd.R_drewN | apply Kd.R_drew)); exact HO_3.out⟩, ⟨by (try simp only [hl6_2]); (try simp only [hl6_3]); (try simp only [hl6_4]); (with_reducible repeat (first | apply Kd.S_alloc | apply Kd.S_drewN | apply Kd.S_drew)); exact HO_4.out⟩, ⟨by (try simp only [hl6_2]); (try simp only [hl6_3]); (try simp only [hl6_4]); (with_reducible repeat (first | apply Kd.R_alloc | apply Kd.R_drewN | apply Kd.R_drew)); exact HO_6.out⟩, ⟨by repeat (first | (with_reducible first | exact HB.out | apply below_alloc | apply pw_below_drewN | apply below_drew1) | exact HB.out)⟩⟩
                       ·rw [if_neg c28] at H
                        exact absurd H (by simp)
                      ·rw [if_neg c27] at H
                       exact absurd H (by simp)
                     ·rw [if_neg c26] at H
                      have c26b0 : decide (x9_4 < (l0.length : Int)) = false := decide_eq_false c26
                      clear c26
                      (first | rw [c26b0] | (simp only [i64_w, i32_w]; rw [c26b0]) | skip)
                      have H' := Aside0.mk H
                      clear H
                      go_wp2
                      go_meet
                      case rel => exact ⟨_, (false), (by first | rfl | (simp; done) | (simp [*]; done)), H', ⟨by have := HK1.out; have := HK2.out; have := HK3.out; have := HK4.out; first | omega | exact Nat.le_refl _⟩, ⟨by (try simp only [hl6_2]); (try simp only [hl6_3]); (try simp only [hl6_4]); (with_reducible repeat (first | apply Kd.R_alloc | apply Kd.R_drewN | apply Kd.R_drew)); exact HO_3.out⟩, ⟨by (try simp only [hl6_2]); (try simp only [hl6_3]); (try simp only [hl6_4]); (with_reducible repeat (first | apply Kd.S_alloc | apply Kd.S_drewN | apply Kd.S_drew)); exact HO_4.out⟩, ⟨by (try simp only [hl6_2]); (try simp only [hl6_3]); (try simp only [hl6_4]); (with_reducible repeat (first | apply Kd.R_alloc | apply Kd.R_drewN | apply Kd.R_drew)); exact HO_6.out⟩, ⟨by repeat (first | (with_reducible first | exact HB.out | apply below_alloc | apply pw_below_drewN | apply below_drew1) | exact HB.out)⟩⟩
                    case rest =>
                     clear HC25
                     try clear c1
                     try clear p1
                     try clear q1
                     try clear hx1
                     try clear hf1
                     try clear c2
                     try clear c2b0
                     try clear c2b1
                     try clear p2
                     try clear c3
                     try clear c3b0
                     try clear c3b1
                     try clear p6
                     try clear c8
                     try clear c8b0
                     try clear c9
                     try clear c9b0
                     try clear c10
                     try clear c10b0
                     try clear q11
                     try clear c12
                     try clear c14
                     try clear c14b0
                     try clear c14b1
                     try clear c15
                     try clear c15b0
                     try clear c15b1
                     try clear c16
                     try clear c16b0
                     try clear c17
                     try clear p17
                     try clear q17
                     try clear hx17
                     try clear hf17
                     try clear c23
                     try clear c24
                     try clear c24b0
                     try clear c26
                     try clear c26b0
                     try clear c27
                     try clear c27b0
                     try clear c28
                     try clear c28b0
                     try clear hx1721007_0
                     try clear hx1721012_0
                     try clear hx17_0
                     try clear p1
                     try clear p17
                     try clear p1721007
                     try clear p1721012
                     try clear p2
                     try clear p6
                     try clear q1
                     try clear q11
                     try clear q17
                     try clear q1721007
                     try clear q1721012
                     obtain ⟨kq, x48_24, rfl, HA, HJ24, HO_3, HO_4, HO_6, HB⟩ := hcut
                     cases kq with
                     | zero => exact absurd HA.out (by simp [spec_l02Parts.j4])
                     | succ kj24 =>
                      have H := HA.out
                      clear HA
                      simp only [spec_l02Parts.j4] at H
                      by_cases c29 : x48_24 = true
                      ·subst c29
                       have H1 : (if 0 ≤ x8_3 then (if x8_3 < (l0.length : Int) then (if 0 ≤ x9_4 then (if x9_4 < ((rd_L1 l0 x8_3).length : Int) then (if (rd (rd_L1 l0 x8_3) x9_4) = 1 then (if x9_4 < (x6_4.length : Int) then (if rdOf false x6_4 x9_4 = true then (spec_l02Parts.l3 kj24 l0 x3_1 x4_1 x5_1 x6_4 x7_4 x8_3 (wrap64 (x9_4 + 1))) else (spec_l02Parts.l3 kj24 l0 x3_1 x4_1 x5_1 (x6_4.set (x9_4 : Int).toNat true) true x8_3 (wrap64 (x9_4 + 1)))) else (none)) else (spec_l02Parts.l3 kj24 l0 x3_1 x4_1 x5_1 x6_4 x7_4 x8_3 (wrap64 (x9_4 + 1)))) else (none)) else (none)) else (none)) else (none)) = some r := by rw [if_pos rfl] at H; exact H
                       clear H
                       have H := H1
                       clear H1
                       by_cases c30 : 0 ≤ x8_3
                       ·rw [if_pos c30] at H
                        have c30b0 : decide (0 ≤ x8_3) = true := decide_eq_true c30
                        clear c30
                        by_cases c31 : x8_3 < (l0.length : Int)
                        ·rw [if_pos c31] at H
                         have c31b0 : decide (x8_3 < (l0.length : Int)) = true := decide_eq_true c31
                         clear c31
                         by_cases c32 : 0 ≤ x9_4
                         ·rw [if_pos c32] at H
                          have c32b0 : decide (0 ≤ x9_4) = true := decide_eq_true c32
                          clear c32
                          by_cases c33 : x9_4 < ((rd_L1 l0 x8_3).length : Int)
                          ·rw [if_pos c33] at H
                           have c33b0 : decide (x9_4 < ((rd_L1 l0 x8_3).length : Int)) = true := decide_eq_true c33
                           clear c33
                           by_cases c34 : (rd (rd_L1 l0 x8_3) x9_4) = 1
                           ·rw [if_pos c34] at H
                            have c34b0 : ((rd (rd_L1 l0 x8_3) x9_4) == 1) = true := beq_iff_eq.mpr c34
                            have c34b1 : ((rd (rd_L1 l0 x8_3) x9_4) != 1) = false := bne_eq_false_iff_eq.mpr c34
                            clear c34
                            by_cases c35 : x9_4 < (x6_4.length : Int)
                            ·rw [if_pos c35] at H
                             have c35b0 : decide (x9_4 < (x6_4.length : Int)) = true := decide_eq_true c35
                             clear c35
                             obtain ⟨bq36, hbq36⟩ : ∃ b_ : Bool, b_ = (rdOf false x6_4 x9_4) := ⟨_, rfl⟩
                             replace H : (if bq36 = true then (spec_l02Parts.l3 kj24 l0 x3_1 x4_1 x5_1 x6_4 x7_4 x8_3 (wrap64 (x9_4 + 1))) else (spec_l02Parts.l3 kj24 l0 x3_1 x4_1 x5_1 (x6_4.set (x9_4 : Int).toNat true) true x8_3 (wrap64 (x9_4 + 1)))) = some r := by rw [← hbq36] at H; exact H
                             have Nbq36 := Aside0.mk hbq36
                             clear hbq36
                             by_cases c37 : bq36 = true
                             ·subst c37
                              have H1 : (spec_l02Parts.l3 kj24 l0 x3_1 x4_1 x5_1 x6_4 x7_4 x8_3 (wrap64 (x9_4 + 1))) = some r := by rw [if_pos rfl] at H; exact H
                              clear H
                              have H := H1
                              clear H1
                              have H' := Aside0.mk H
                              clear H
                              have p1721013 : 0 ≤ (x8_3 : Int) := of_decide_eq_true (by first | (with_reducible assumption) | assumption)
                              have q1721013 : x8_3 < (l0.length : Int) := of_decide_eq_true (by first | (with_reducible assumption) | assumption)
                              obtain ⟨ad1721013, A1721013_0, c1721013_0, e1721013, hx1721013_0, hl1721013_0, hi1721013_0⟩ := at_L1 HR0.out x8_3 p1721013 q1721013
                              cases e1721013
                              replace hx1721013_0 := (HB.out.cell (World.block_lt_of_cell? w _ hx1721013_0)).trans hx1721013_0
                              have HR1721013_0 := Aside0.mk hi1721013_0
                              have HC1721013_0 := Aside0.mk hl1721013_0
                              clear hi1721013_0 hl1721013_0
                              replace p1721013 := eq_true p1721013
                              replace q1721013 := eq_true q1721013
                              have p1721014 : 0 ≤ (x9_4 : Int) := of_decide_eq_true (by first | (with_reducible assumption) | assumption)
                              have q1721014 : x9_4 < ((rd_L1 l0 x8_3).length : Int) := of_decide_eq_true (by first | (with_reducible assumption) | assumption)
                              obtain ⟨ad1721014, e1721014, hx1721014_0⟩ := Kd.at_int HR1721013_0.out x9_4 p1721014 q1721014
                              cases e1721014
                              replace hx1721014_0 := (HB.out.cell (World.block_lt_of_cell? w _ hx1721014_0)).trans hx1721014_0
                              replace p1721014 := eq_true p1721014
                              replace q1721014 := eq_true q1721014
                              have p1721015 : 0 ≤ (x9_4 : Int) := of_decide_eq_true (by first | (with_reducible assumption) | assumption)
                              have q1721015 : x9_4 < (x6_4.length : Int) := of_decide_eq_true (by first | (with_reducible assumption) | assumption)
                              obtain ⟨ad1721015, e1721015, hx1721015_0⟩ := Kd.at_bool (Kd.R_reads' HO_6.out).2.2 x9_4 p1721015 q1721015
                              (try rw [← Nbq11.out] at hx1721015_0)
                              (try rw [← Nbq36.out] at hx1721015_0)
                              obtain rfl : (⟨go17, 0, none⟩ : Addr) = ad1721015 := (by injection e1721015)
                              (first | simp only [add_plain] at hx1721015_0 | simp only [add_at] at hx1721015_0 | simp only [Addr.add, Nat.zero_add] at hx1721015_0 | skip)
                              replace p1721015 := eq_true p1721015
                              replace q1721015 := eq_true q1721015
                              go_wp2
                              (try simp only [← hl6_4])
                              go_roundg kj24
                              case measure => have := HK1.out; have := HK2.out; have := HK3.out; have := HK4.out; have := HJ24.out; omega
                              case rel => exact ⟨(x6_4), (x7_4), (wrap64 (x9_4 + 1)), (by first | rfl | (simp; done) | (simp [*]; done)), (by first | rfl | (simp; done) | (simp [*]; done)), H', ⟨by have := HK1.out; have := HK2.out; have := HK3.out; have := HK4.out; have := HJ24.out; omega⟩, ⟨by (try simp only [hl6_2]); (try simp only [hl6_3]); (try simp only [hl6_4]); (with_reducible repeat (first | apply Kd.R_alloc | apply Kd.R_drewN | apply Kd.R_drew)); exact HO_3.out⟩, ⟨by (try simp only [hl6_2]); (try simp only [hl6_3]); (try simp only [hl6_4]); (with_reducible repeat (first | apply Kd.S_alloc | apply Kd.S_drewN | apply Kd.S_drew)); exact HO_4.out⟩, ⟨by (try simp only [hl6_2]); (try simp only [hl6_3]); (try simp only [hl6_4]); (with_reducible repeat (first | apply Kd.R_alloc | apply Kd.R_drewN | apply Kd.R_drew)); exact HO_6.out⟩, ⟨by repeat (first | (with_reducible first | exact HB.out | apply below_alloc | apply pw_below_drewN | apply below_drew1) | exact HB.out)⟩⟩
                             ·replace c37 := Bool.eq_false_iff.mpr c37
                              subst c37
                              have H1 : (spec_l02Parts.l3 kj24 l0 x3_1 x4_1 x5_1 (x6_4.set (x9_4 : Int).toNat true) true x8_3 (wrap64 (x9_4 + 1))) = some r := by rw [if_neg (show ¬ (false = true) by decide)] at H; exact H
                              clear H
                              have H := H1
                              clear H1
                              obtain ⟨y1721016, hy1721016⟩ : ∃ y_ : List Bool, y_ = (x6_4.set (x9_4 : Int).toNat true) := ⟨_, rfl⟩
                              replace H : (spec_l02Parts.l3 kj24 l0 x3_1 x4_1 x5_1 y1721016 true x8_3 (wrap64 (x9_4 + 1))) = some r := by first | (rw [hy1721016]; with_reducible exact H) | (have H2_ := (Option.bind_some _ _).symm.trans H; rw [hy1721016]; with_reducible exact H2_) | (have H2_ := (Option.bind_some _ _).symm.trans H; with_reducible exact H2_) | with_reducible exact H | (rw [hy1721016]; exact H) | exact H
                              have Ny1721016 := Aside0.mk hy1721016
                              clear hy1721016
                              have H' := Aside0.mk H
                              clear H
                              have p1721013 : 0 ≤ (x8_3 : Int) := of_decide_eq_true (by first | (with_reducible assumption) | assumption)
                              have q1721013 : x8_3 < (l0.length : Int) := of_decide_eq_true (by first | (with_reducible assumption) | assumption)
                              obtain ⟨ad1721013, A1721013_0, c1721013_0, e1721013, hx1721013_0, hl1721013_0, hi1721013_0⟩ := at_L1 HR0.out x8_3 p1721013 q1721013
                              cases e1721013
                              replace hx1721013_0 := (HB.out.cell (World.block_lt_of_cell? w _ hx1721013_0)).trans hx1721013_0
                              have HR1721013_0 := Aside0.mk hi1721013_0
                              have HC1721013_0 := Aside0.mk hl1721013_0
                              clear hi1721013_0 hl1721013_0
                              replace p1721013 := eq_true p1721013
                              replace q1721013 := eq_true q1721013
                              have p1721014 : 0 ≤ (x9_4 : Int) := of_decide_eq_true (by first | (with_reducible assumption) | assumption)
                              have q1721014 : x9_4 < ((rd_L1 l0 x8_3).length : Int) := of_decide_eq_true (by first | (with_reducible assumption) | assumption)
                              obtain ⟨ad1721014, e1721014, hx1721014_0⟩ := Kd.at_int HR1721013_0.out x9_4 p1721014 q1721014
                              cases e1721014
                              replace hx1721014_0 := (HB.out.cell (World.block_lt_of_cell? w _ hx1721014_0)).trans hx1721014_0
                              replace p1721014 := eq_true p1721014
                              replace q1721014 := eq_true q1721014
                              have p1721015 : 0 ≤ (x9_4 : Int) := of_decide_eq_true (by first | (with_reducible assumption) | assumption)
                              have q1721015 : x9_4 < (x6_4.length : Int) := of_decide_eq_true (by first | (with_reducible assumption) | assumption)
                              obtain ⟨ad1721015, e1721015, hx1721015_0⟩ := Kd.at_bool (Kd.R_reads' HO_6.out).2.2 x9_4 p1721015 q1721015
                              (try rw [← Nbq11.out] at hx1721015_0)
                              (try rw [← Nbq36.out] at hx1721015_0)
                              obtain rfl : (⟨go17, 0, none⟩ : Addr) = ad1721015 := (by injection e1721015)
                              (first | simp only [add_plain] at hx1721015_0 | simp only [add_at] at hx1721015_0 | simp only [Addr.add, Nat.zero_add] at hx1721015_0 | skip)
                              replace p1721015 := eq_true p1721015
                              replace q1721015 := eq_true q1721015
                              have p38 : 0 ≤ (x9_4 : Int) := of_decide_eq_true (by first | (with_reducible assumption) | assumption)
                              have q38 : (x9_4 : Int) < ((x6_4.length : Int) : Int) := of_decide_eq_true (by first | (with_reducible assumption) | assumption)
                              obtain ⟨hx38_0, hf38_0⟩ := Kd.R_celln false HO_6.out (x9_4 : Int) p38 q38
                              replace p38 := eq_true p38
                              replace q38 := eq_true q38
                              have HP39 := Kd.R_putg HO_6.out (x9_4 : Int) true
                              go_wp2_with (first | ((with_reducible refine gate_store (t := 4) (p := 68) rfl ?_); refine store_event (t := 4) (p := 68) (v := ?vo_w40) (w1 := (wc.setCell ⟨go17, (x9_4 : Int).toNat, none⟩ (.bool true))) ?hg ?ho ?hn ?hr ?_; (case ho => rfl); (case hg => rfl); (case hn => rfl); (case hr => first | (go_simp; done) | (go_simp; rfl)); intro w40 hw; have hg : wc.grownBy w40 (some go17) := (by rw [hw]; exact HP39.2); have hp_ : Kd.R Kd.bool 4 w40 w.heap.size (fun k_ => some k_ ≠ (.slice (some ad1721007) x3_1.length co18 : Value).ownBlock) (.slice (some ⟨go17, 0, none⟩) x6_4.length co17) y1721016 := (by rw [hw, Ny1721016.out]; exact HP39.1); clear HP39; have n0_ := Aside0.mk (Kd.R_after (v := (.slice (some ⟨go17, 0, none⟩) x6_4.length co17)) (v1 := (.slice (some ⟨go17, 0, none⟩) x6_4.length co17)) (ok := (fun _ => True)) (by (with_reducible repeat (first | apply Kd.R_alloc | apply Kd.R_drewN | apply Kd.R_drew)); exact Kd.R_mono HO_3.out (fun _ hk => ⟨trivial, hk⟩)) hg (.inl rfl)); have n1_ := Aside0.mk (Kd.S_over' (v := (.slice (some ⟨go17, 0, none⟩) x6_4.length co17)) (by (with_reducible repeat (first | apply Kd.S_alloc | apply Kd.S_drewN | apply Kd.S_drew)); exact HO_4.out) (Kd.R_typed HO_6.out) (by decide) hg); have n2_ := Aside0.mk (hp_); have n3_ := Aside0.mk ((by rw [hw]; exact below_set (HB.out) GB17.out : Below w.heap.size w w40)); clear HO_3; clear HO_4; clear HO_6; clear HB; have HO_3 := n0_; have HO_4 := n1_; have HO_6 := n2_; have HB := n3_; clear n0_ n1_ n2_ n3_; clear hg hw hp_))
                              (try simp only [← hl6_4])
                              go_roundg kj24
                              case measure => have := HK1.out; have := HK2.out; have := HK3.out; have := HK4.out; have := HJ24.out; omega
                              case rel => exact ⟨(y1721016), (true), (wrap64 (x9_4 + 1)), (by first | rfl | (simp; done) | (simp [*]; done)), (by first | rfl | (simp; done) | (simp [*]; done)), H', ⟨by have := HK1.out; have := HK2.out; have := HK3.out; have := HK4.out; have := HJ24.out; omega⟩, ⟨by (try simp only [hl6_2]); (try simp only [hl6_3]); (try simp only [hl6_4]); (with_reducible repeat (first | apply Kd.R_alloc | apply Kd.R_drewN | apply Kd.R_drew)); exact Kd.R_mono HO_3.out (fun _ hk => hk.2)⟩, ⟨by (try simp only [hl6_2]); (try simp only [hl6_3]); (try simp only [hl6_4]); (with_reducible repeat (first | apply Kd.S_alloc | apply Kd.S_drewN | apply Kd.S_drew)); exact HO_4.out⟩, ⟨by (try simp only [hl6_2]); (try simp only [hl6_3]); (try simp only [hl6_4]); (with_reducible repeat (first | apply Kd.R_alloc | apply Kd.R_drewN | apply Kd.R_drew)); exact HO_6.out⟩, ⟨by repeat (first | (with_reducible first | exact HB.out | apply below_alloc | apply pw_below_drewN | apply below_drew1) | exact HB.out)⟩⟩
                            ·rw [if_neg c35] at H
                             exact absurd H (by simp)
                           ·rw [if_neg c34] at H
                            have c34b0 : ((rd (rd_L1 l0 x8_3) x9_4) == 1) = false := beq_eq_false_iff_ne.mpr c34
                            have c34b1 : ((rd (rd_L1 l0 x8_3) x9_4) != 1) = true := bne_iff_ne.mpr c34
                            have H' := Aside0.mk H
                            clear H
                            have p1721013 : 0 ≤ (x8_3 : Int) := of_decide_eq_true (by first | (with_reducible assumption) | assumption)
                            have q1721013 : x8_3 < (l0.length : Int) := of_decide_eq_true (by first | (with_reducible assumption) | assumption)
                            obtain ⟨ad1721013, A1721013_0, c1721013_0, e1721013, hx1721013_0, hl1721013_0, hi1721013_0⟩ := at_L1 HR0.out x8_3 p1721013 q1721013
                            cases e1721013
                            replace hx1721013_0 := (HB.out.cell (World.block_lt_of_cell? w _ hx1721013_0)).trans hx1721013_0
                            have HR1721013_0 := Aside0.mk hi1721013_0
                            have HC1721013_0 := Aside0.mk hl1721013_0
                            clear hi1721013_0 hl1721013_0
                            replace p1721013 := eq_true p1721013
                            replace q1721013 := eq_true q1721013
                            have p1721014 : 0 ≤ (x9_4 : Int) := of_decide_eq_true (by first | (with_reducible assumption) | assumption)
                            have q1721014 : x9_4 < ((rd_L1 l0 x8_3).length : Int) := of_decide_eq_true (by first | (with_reducible assumption) | assumption)
                            obtain ⟨ad1721014, e1721014, hx1721014_0⟩ := Kd.at_int HR1721013_0.out x9_4 p1721014 q1721014
                            cases e1721014
                            replace hx1721014_0 := (HB.out.cell (World.block_lt_of_cell? w _ hx1721014_0)).trans hx1721014_0
                            replace p1721014 := eq_true p1721014
                            replace q1721014 := eq_true q1721014
                            go_wp2
                            (try simp only [← hl6_4])
                            go_roundg kj24
                            case measure => have := HK1.out; have := HK2.out; have := HK3.out; have := HK4.out; have := HJ24.out; omega
                            case rel => exact ⟨(x6_4), (x7_4), (wrap64 (x9_4 + 1)), (by first | rfl | (simp; done) | (simp [*]; done)), (by first | rfl | (simp; done) | (simp [*]; done)), H', ⟨by have := HK1.out; have := HK2.out; have := HK3.out; have := HK4.out; have := HJ24.out; omega⟩, ⟨by (try simp only [hl6_2]); (try simp only [hl6_3]); (try simp only [hl6_4]); (with_reducible repeat (first | apply Kd.R_alloc | apply Kd.R_drewN | apply Kd.R_drew)); exact HO_3.out⟩, ⟨by (try simp only [hl6_2]); (try simp only [hl6_3]); (try simp only [hl6_4]); (with_reducible repeat (first | apply Kd.S_alloc | apply Kd.S_drewN | apply Kd.S_drew)); exact HO_4.out⟩, ⟨by (try simp only [hl6_2]); (try simp only [hl6_3]); (try simp only [hl6_4]); (with_reducible repeat (first | apply Kd.R_alloc | apply Kd.R_drewN | apply Kd.R_drew)); exact HO_6.out⟩, ⟨by repeat (first | (with_reducible first | exact HB.out | apply below_alloc | apply pw_below_drewN | apply below_drew1) | exact HB.out)⟩⟩
                          ·rw [if_neg c33] at H
                           exact absurd H (by simp)
                         ·rw [if_neg c32] at H
                          exact absurd H (by simp)
                        ·rw [if_neg c31] at H
                         exact absurd H (by simp)
                       ·rw [if_neg c30] at H
                        exact absurd H (by simp)
                      ·replace c29 := Bool.eq_false_iff.mpr c29
                       subst c29
                       have H1 : (spec_l02Parts.l2 kj24 l0 x3_1 x4_1 x5_1 x6_4 x7_4 (wrap64 (x8_3 + 1))) = some r := by rw [if_neg (show ¬ (false = true) by decide)] at H; exact H
                       clear H
                       have H := H1
                       clear H1
                       have H' := Aside0.mk H
                       clear H
                       go_wp2
                       (try simp only [← hl6_3, ← hl6_4])
                       go_roundg kj24
                       case measure => have := HK1.out; have := HK2.out; have := HK3.out; have := HK4.out; have := HJ24.out; omega
                       case rel => exact ⟨(x6_4), (x7_4), (wrap64 (x8_3 + 1)), (by first | rfl | (simp; done) | (simp [*]; done)), (by first | rfl | (simp; done) | (simp [*]; done)), H', ⟨by have := HK1.out; have := HK2.out; have := HK3.out; have := HK4.out; have := HJ24.out; omega⟩, ⟨by (try simp only [hl6_2]); (try simp only [hl6_3]); (try simp only [hl6_4]); (with_reducible repeat (first | apply Kd.R_alloc | apply Kd.R_drewN | apply Kd.R_drew)); exact HO_3.out⟩, ⟨by (try simp only [hl6_2]); (try simp only [hl6_3]); (try simp only [hl6_4]); (with_reducible repeat (first | apply Kd.S_alloc | apply Kd.S_drewN | apply Kd.S_drew)); exact HO_4.out⟩, ⟨by (try simp only [hl6_2]); (try simp only [hl6_3]); (try simp only [hl6_4]); (with_reducible repeat (first | apply Kd.R_alloc | apply Kd.R_drewN | apply Kd.R_drew)); exact HO_6.out⟩, ⟨by repeat (first | (with_reducible first | exact HB.out | apply below_alloc | apply pw_below_drewN | apply below_drew1) | exact HB.out)⟩⟩
                 ·rw [if_neg c24] at H
                  have c24b0 : decide (x8_3 < (l0.length : Int)) = false := decide_eq_false c24
                  clear c24
                  have H' := Aside0.mk H
                  clear H
                  go_wp2
                  (try simp only [← hl6_2, ← hl6_3])
                  (try simp only [show (⟨go49, x5_1.toNat, none⟩ : Addr) = (⟨go49, 0, none⟩ : Addr).add x5_1.toNat from (add_plain _ _).symm])
                  go_roundg k3
                  case measure => have := HK1.out; have := HK2.out; have := HK3.out; omega
                  case rel => exact ⟨(x6_3), (x7_3), (by first | rfl | (simp; done) | (simp [*]; done)), H', ⟨by have := HK1.out; have := HK2.out; have := HK3.out; omega⟩, ⟨by (try simp only [hl6_2]); (try simp only [hl6_3]); (with_reducible repeat (first | apply Kd.R_alloc | apply Kd.R_drewN | apply Kd.R_drew)); exact HO_3.out⟩, ⟨by (try simp only [hl6_2]); (try simp only [hl6_3]); (with_reducible repeat (first | apply Kd.S_alloc | apply Kd.S_drewN | apply Kd.S_drew)); exact HO_4.out⟩, ⟨by (try simp only [hl6_2]); (try simp only [hl6_3]); (with_reducible repeat (first | apply Kd.R_alloc | apply Kd.R_drewN | apply Kd.R_drew)); exact HO_6.out⟩, ⟨by repeat (first | (with_reducible first | exact HB.out | apply below_alloc | apply pw_below_drewN | apply below_drew1) | exact HB.out)⟩⟩
              ·replace c23 := Bool.eq_false_iff.mpr c23
               subst c23
               have H1 : (spec_l02Parts.l4 k2 l0 x3_1 x4_1 x5_1 x6_2 (([] : List Int)) 0) = some r := by rw [if_neg (show ¬ (false = true) by decide)] at H; exact H
               clear H
               have H := H1
               clear H1
               obtain ⟨y1721017, hy1721017⟩ : ∃ y_ : List Int, y_ = (([] : List Int)) := ⟨_, rfl⟩
               replace H : (spec_l02Parts.l4 k2 l0 x3_1 x4_1 x5_1 x6_2 y1721017 0) = some r := by first | (rw [hy1721017]; with_reducible exact H) | (have H2_ := (Option.bind_some _ _).symm.trans H; rw [hy1721017]; with_reducible exact H2_) | (have H2_ := (Option.bind_some _ _).symm.trans H; with_reducible exact H2_) | with_reducible exact H | (rw [hy1721017]; exact H) | exact H
               have Ny1721017 := Aside0.mk hy1721017
               clear hy1721017
               have H' := Aside0.mk H
               clear H
               go_wp2_with (first | ((with_reducible refine gate_dst (N := 69) rfl ?_); refine Kd.R_lit (Kd.int .i64) _ 2 ?hg (N := 69) ?hd (xs := ([] : List Int)) (inner := []) (ok := fun _ => True) (okp := fun _ => True) ?hr ?hp (fun _ hk => hk) trivial (Below.refl _ _) (Nat.le_refl _) (by simp) ?_; (case hd => rfl); (case hg => rfl); (case hr => first | (go_simp; done) | (go_simp; rfl)); (case hp => exact (Reps.none _ _)); intro v1721018 w41 ho42 hb hg_ hnew_; clear hg_ hnew_; (first | rw [← Ny1721017.out] at ho42 | (simp only [Int.reduceToNat] at ho42; rw [← Ny1721017.out] at ho42)); have n0_ := Aside0.mk (Kd.R_below (by (with_reducible repeat (first | apply Kd.R_alloc | apply Kd.R_drewN | apply Kd.R_drew)); exact HO_3.out) hb); have n1_ := Aside0.mk (Kd.S_elder' (by (with_reducible repeat (first | apply Kd.S_alloc | apply Kd.S_drewN | apply Kd.S_drew)); exact HO_4.out) (Kd.R_base ho42) hb); have n2_ := Aside0.mk (Kd.R_below (by (with_reducible repeat (first | apply Kd.R_alloc | apply Kd.R_drewN | apply Kd.R_drew)); exact HO_6.out) hb); have n3_ := Aside0.mk (Kd.R_lower ho42 (below_size (by repeat (first | (with_reducible first | exact HB.out | apply below_alloc | apply pw_below_drewN | apply below_drew1) | exact HB.out)))); have n4_ := Aside0.mk (below_step (by repeat (first | (with_reducible first | exact HB.out | apply below_alloc | apply pw_below_drewN | apply below_drew1) | exact HB.out)) hb); clear HO_3; clear HO_4; clear HO_6; clear HB; have HO_3 := n0_; have HO_4 := n1_; have HO_6 := n2_; have HO1721019 := n3_; have HB := n4_; clear n0_ n1_ n2_ n3_ n4_; clear hb ho42))
               go_loopg [10, 11] k2 (fun kq v10 v11 w' => ∃ (x3_3 : List Bool) (x10_3 : List Int) (x11_3 : Int), v11 = .int .i64 x11_3 ∧ Aside0 (spec_l02Parts.l4 kq l0 x3_3 x4_1 x5_1 x6_2 x10_3 x11_3 = some r) ∧ Aside0 (kq ≤ k2) ∧ Aside0 (Kd.R Kd.bool 4 w' w.heap.size (fun k_ => some k_ ≠ ((.slice (some ⟨go17, 0, none⟩) x6_2.length co17) : Value).ownBlock) (.slice (some ad1721007) x3_1.length co18) x3_3) ∧ Aside0 (Kd.S (Kd.slice 2 (Kd.int .i64)) 22 w' w.heap.size (fun k_ => some k_ ≠ (v10 : Value).ownBlock) u4 x4_1) ∧ Aside0 (Kd.R Kd.bool 4 w' w.heap.size (fun k_ => some k_ ≠ ((.slice (some ad1721007) x3_1.length co18) : Value).ownBlock) (.slice (some ⟨go17, 0, none⟩) x6_2.length co17) x6_2) ∧ Aside0 (Kd.R (Kd.int .i64) 2 w' w.heap.size (fun _ => True) v10 x10_3) ∧ Aside0 (Below w.heap.size w w'))
               case atStart => exact ⟨(x3_1), (y1721017), (0), (by first | rfl | (simp; done) | (simp [*]; done)), H', ⟨Nat.le_refl _⟩, ⟨by (try simp only [hl6_2]); (with_reducible repeat (first | apply Kd.R_alloc | apply Kd.R_drewN | apply Kd.R_drew)); exact HO_3.out⟩, ⟨by (try simp only [hl6_2]); (with_reducible repeat (first | apply Kd.S_alloc | apply Kd.S_drewN | apply Kd.S_drew)); exact Kd.S_mono HO_4.out (fun _ hk => hk.2)⟩, ⟨by (try simp only [hl6_2]); (with_reducible repeat (first | apply Kd.R_alloc | apply Kd.R_drewN | apply Kd.R_drew)); exact HO_6.out⟩, ⟨by (try simp only [hl6_2]); (with_reducible repeat (first | apply Kd.R_alloc | apply Kd.R_drewN | apply Kd.R_drew)); exact HO1721019.out⟩, ⟨by repeat (first | (with_reducible first | exact HB.out | apply below_alloc | apply pw_below_drewN | apply below_drew1) | exact HB.out)⟩⟩
               case round =>
                clear H'
                try clear c1
                try clear p1
                try clear q1
                try clear hx1
                try clear hf1
                try clear c2
                try clear c2b0
                try clear c2b1
                try clear p2
                try clear c3
                try clear c3b0
                try clear c3b1
                try clear p3
                try clear q3
                try clear hx3
                try clear hf3
                try clear p6
                try clear c8
                try clear c8b0
                try clear c9
                try clear c9b0
                try clear c10
                try clear c10b0
                try clear q11
                try clear c12
                try clear c14
                try clear c14b0
                try clear c14b1
                try clear c15
                try clear c15b0
                try clear c15b1
                try clear c16
                try clear c16b0
                try clear c17
                try clear p17
                try clear q17
                try clear hx17
                try clear hf17
                try clear c23
                try clear c24
                try clear c24b0
                try clear c26
                try clear c26b0
                try clear c27
                try clear c27b0
                try clear c28
                try clear c28b0
                try clear c29
                try clear c30
                try clear c30b0
                try clear c31
                try clear c31b0
                try clear c32
                try clear c32b0
                try clear c33
                try clear c33b0
                try clear c34
                try clear c34b0
                try clear c34b1
                try clear c35
                try clear c35b0
                try clear q36
                try clear c37
                try clear p38
                try clear q38
                try clear hx38
                try clear hf38
                try clear hx1721007_0
                try clear hx1721012_0
                try clear hx1721013_0
                try clear hx1721014_0
                try clear hx1721015_0
                try clear hx17_0
                try clear hx38_0
                try clear p1
                try clear p17
                try clear p1721007
                try clear p1721012
                try clear p1721013
                try clear p1721014
                try clear p1721015
                try clear p2
                try clear p38
                try clear p6
                try clear q1
                try clear q11
                try clear q17
                try clear q1721007
                try clear q1721012
                try clear q1721013
                try clear q1721014
                try clear q1721015
                try clear q38
                obtain ⟨x3_3, x10_3, x11_3, rfl, HA, HK3, HO_3, HO_4, HO_6, HO_10, HB⟩ := hrel
                have hl3_3 := (Kd.R_reads' HO_3.out).1
                rw [hl3_3] at HO_3
                (try simp only [hl3_3])
                (try simp only [hl3_3] at HO_4)
                (try simp only [hl3_3] at HO_6)
                (try simp only [hl3_3] at HO_10)
                cases gk with
                | zero => exact absurd HA.out (by simp [spec_l02Parts.l4])
                | succ k3 =>
                 have H := HA.out
                 clear HA
                 simp only [spec_l02Parts.l4] at H
                 by_cases c43 : x11_3 < (l0.length : Int)
                 ·rw [if_pos c43] at H
                  have c43b0 : decide (x11_3 < (l0.length : Int)) = true := decide_eq_true c43
                  clear c43
                  by_cases c44 : 0 ≤ x11_3
                  ·rw [if_pos c44] at H
                   have c44b0 : decide (0 ≤ x11_3) = true := decide_eq_true c44
                   clear c44
                   by_cases c45 : x11_3 < (x6_2.length : Int)
                   ·rw [if_pos c45] at H
                    have c45b0 : decide (x11_3 < (x6_2.length : Int)) = true := decide_eq_true c45
                    clear c45
                    obtain ⟨bq46, hbq46⟩ : ∃ b_ : Bool, b_ = (rdOf false x6_2 x11_3) := ⟨_, rfl⟩
                    replace H : (if bq46 = true then (if x11_3 < (x3_3.length : Int) then (if x10_3.length < 17592186044416 then (spec_l02Parts.l4 k3 l0 (x3_3.set (x11_3 : Int).toNat true) x4_1 x5_1 x6_2 (x10_3 ++ [x11_3]) (wrap64 (x11_3 + 1))) else (none)) else (none)) else (spec_l02Parts.l4 k3 l0 x3_3 x4_1 x5_1 x6_2 x10_3 (wrap64 (x11_3 + 1)))) = some r := by rw [← hbq46] at H; exact H
                    have Nbq46 := Aside0.mk hbq46
                    clear hbq46
                    by_cases c47 : bq46 = true
                    ·subst c47
                     have H1 : (if x11_3 < (x3_3.length : Int) then (if x10_3.length < 17592186044416 then (spec_l02Parts.l4 k3 l0 (x3_3.set (x11_3 : Int).toNat true) x4_1 x5_1 x6_2 (x10_3 ++ [x11_3]) (wrap64 (x11_3 + 1))) else (none)) else (none)) = some r := by rw [if_pos rfl] at H; exact H
                     clear H
                     have H := H1
                     clear H1
                     by_cases c48 : x11_3 < (x3_3.length : Int)
                     ·rw [if_pos c48] at H
                      have c48b0 : decide (x11_3 < (x3_3.length : Int)) = true := decide_eq_true c48
                      clear c48
                      obtain ⟨y1721021, hy1721021⟩ : ∃ y_ : List Bool, y_ = (x3_3.set (x11_3 : Int).toNat true) := ⟨_, rfl⟩
                      replace H : (if x10_3.length < 17592186044416 then (spec_l02Parts.l4 k3 l0 y1721021 x4_1 x5_1 x6_2 (x10_3 ++ [x11_3]) (wrap64 (x11_3 + 1))) else (none)) = some r := by first | (rw [hy1721021]; with_reducible exact H) | (have H2_ := (Option.bind_some _ _).symm.trans H; rw [hy1721021]; with_reducible exact H2_) | (have H2_ := (Option.bind_some _ _).symm.trans H; with_reducible exact H2_) | with_reducible exact H | (rw [hy1721021]; exact H) | exact H
                      have Ny1721021 := Aside0.mk hy1721021
                      clear hy1721021
                      by_cases c50 : x10_3.length < 17592186044416
                      ·rw [if_pos c50] at H
                       have LMc50 := Aside0.mk c50
                       clear c50
                       obtain ⟨y1721022, hy1721022⟩ : ∃ y_ : List Int, y_ = (x10_3 ++ [x11_3]) := ⟨_, rfl⟩
                       replace H : (spec_l02Parts.l4 k3 l0 y1721021 x4_1 x5_1 x6_2 y1721022 (wrap64 (x11_3 + 1))) = some r := by first | (rw [hy1721022]; with_reducible exact H) | (have H2_ := (Option.bind_some _ _).symm.trans H; rw [hy1721022]; with_reducible exact H2_) | (have H2_ := (Option.bind_some _ _).symm.trans H; with_reducible exact H2_) | with_reducible exact H | (rw [hy1721022]; exact H) | exact H
                       have Ny1721022 := Aside0.mk hy1721022
                       clear hy1721022
                       have H' := Aside0.mk H
                       clear H
                       have p1721020 : 0 ≤ (x11_3 : Int) := of_decide_eq_true (by first | (with_reducible assumption) | assumption)
                       have q1721020 : x11_3 < (x6_2.length : Int) := of_decide_eq_true (by first | (with_reducible assumption) | assumption)
                       obtain ⟨ad1721020, e1721020, hx1721020_0⟩ := Kd.at_bool (Kd.R_reads' HO_6.out).2.2 x11_3 p1721020 q1721020
                       (try rw [← Nbq11.out] at hx1721020_0)
                       (try rw [← Nbq46.out] at hx1721020_0)
                       obtain rfl : (⟨go17, 0, none⟩ : Addr) = ad1721020 := (by injection e1721020)
                       (first | simp only [add_plain] at hx1721020_0 | simp only [add_at] at hx1721020_0 | simp only [Addr.add, Nat.zero_add] at hx1721020_0 | skip)
                       replace p1721020 := eq_true p1721020
                       replace q1721020 := eq_true q1721020
                       have p49 : 0 ≤ (x11_3 : Int) := of_decide_eq_true (by first | (with_reducible assumption) | assumption)
                       have q49 : (x11_3 : Int) < ((x3_3.length : Int) : Int) := of_decide_eq_true (by first | (with_reducible assumption) | assumption)
                       obtain ⟨go49, co49, eo49, gb49, gl49, cl49, HG49⟩ := Kd.R_form HO_3.out (by omega)
                       (first | cases eo49 | (injection eo49 with ea_ en_ ec_; (first | subst ea_ | (injection ea_ with ea_; subst ea_)); subst ec_; clear en_))
                       have GB49 := Aside0.mk gb49
                       have GG49 := Aside0.mk HG49
                       clear gb49 gl49 HG49
                       (first | simp only [add_plain] at hx1721007_0 | skip)
                       obtain ⟨hx49_0, hf49_0⟩ := Kd.R_celln false HO_3.out (x11_3 : Int) p49 q49
                       replace p49 := eq_true p49
                       replace q49 := eq_true q49
                       have HP51 := Kd.R_putg HO_3.out (x11_3 : Int) true
                       go_wp2_with (first | ((with_reducible refine gate_store (t := 4) (p := 82) rfl ?_); refine store_event (t := 4) (p := 82) (v := ?vo_w52) (w1 := (wr.setCell ⟨go49, (x11_3 : Int).toNat, none⟩ (.bool true))) ?hg ?ho ?hn ?hr ?_; (case ho => rfl); (case hg => rfl); (case hn => rfl); (case hr => first | (go_simp; done) | (go_simp; rfl)); intro w52 hw; have hg : wr.grownBy w52 (some go49) := (by rw [hw]; exact HP51.2); have hp_ : Kd.R Kd.bool 4 w52 w.heap.size (fun k_ => some k_ ≠ (.slice (some ⟨go17, 0, none⟩) x6_2.length co17 : Value).ownBlock) (.slice (some ⟨go49, 0, none⟩) x3_3.length co18) y1721021 := (by rw [hw, Ny1721021.out]; exact HP51.1); clear HP51; have n0_ := Aside0.mk (hp_); have n1_ := Aside0.mk (Kd.S_over' (v := (.slice (some ⟨go49, 0, none⟩) x3_3.length co18)) (by (with_reducible repeat (first | apply Kd.S_alloc | apply Kd.S_drewN | apply Kd.S_drew)); exact HO_4.out) (Kd.R_typed HO_3.out) (by decide) hg); have n2_ := Aside0.mk (Kd.R_after (v := (.slice (some ⟨go49, 0, none⟩) x3_3.length co18)) (v1 := (.slice (some ⟨go49, 0, none⟩) x3_3.length co18)) (ok := (fun _ => True)) (by (with_reducible repeat (first | apply Kd.R_alloc | apply Kd.R_drewN | apply Kd.R_drew)); exact Kd.R_mono HO_6.out (fun _ hk => ⟨trivial, hk⟩)) hg (.inl rfl)); have n3_ := Aside0.mk (Kd.R_over' (v := (.slice (some ⟨go49, 0, none⟩) x3_3.length co18)) (by (with_reducible repeat (first | apply Kd.R_alloc | apply Kd.R_drewN | apply Kd.R_drew)); exact HO_10.out) (Kd.R_typed HO_3.out) (by decide) hg); have n4_ := Aside0.mk ((by rw [hw]; exact below_set (HB.out) GB49.out : Below w.heap.size w w52)); clear HO_3; clear HO_4; clear HO_6; clear HO_10; clear HB; have HO_3 := n0_; have HO_4 := n1_; have HO_6 := n2_; have HO_10 := n3_; have HB := n4_; clear n0_ n1_ n2_ n3_ n4_; clear hg hw hp_) | ((with_reducible refine gate_builtin (b := .append) (xs := #[.tmp 83, .tmp 85]) rfl ?_); at_builtin; refine Kd.R_append (Kd.int .i64) (w0 := w) w.heap.size rfl (.tmp 83) (.tmp 85) 22 2 (.int .i64 0) 8 rfl Try.underlying22 info2 rfl (by decide) (by omega) u10 x10_3 x11_3 [.int .i64 x11_3] (fun _ => True) (fun _ => False) rfl rfl ?aP (fun _ hk => hk.elim) ?aF ?aO ?aB ?aS ?aL ?_; (case aP => exact rfl); (case aB => exact (by repeat (first | (with_reducible first | exact HB.out | apply below_alloc | apply pw_below_drewN | apply below_drew1) | exact HB.out))); (case aF => exact (fun _ _ => trivial)); (case aO => exact (by (with_reducible repeat (first | apply Kd.R_alloc | apply Kd.R_drewN | apply Kd.R_drew)); exact HO_10.out)); (case aS => exact (below_size (by repeat (first | (with_reducible first | exact HB.out | apply below_alloc | apply pw_below_drewN | apply below_drew1) | exact HB.out)))); (case aL => have := LMc50.out; omega); intro v1721023 w53 ho hb hg hat; rw [← Ny1721022.out] at ho; have n0_ := Aside0.mk (Kd.R_over' (by (with_reducible repeat (first | apply Kd.R_alloc | apply Kd.R_drewN | apply Kd.R_drew)); exact HO_3.out) (Kd.R_typed (by (with_reducible repeat (first | apply Kd.R_alloc | apply Kd.R_drewN | apply Kd.R_drew)); exact HO_10.out)) (by decide) hg); have n1_ := Aside0.mk (Kd.S_after (ok := (fun _ => True)) (by (with_reducible repeat (first | apply Kd.S_alloc | apply Kd.S_drewN | apply Kd.S_drew)); exact Kd.S_mono HO_4.out (fun _ hk => ⟨trivial, hk⟩)) hg hat); have n2_ := Aside0.mk (Kd.R_over' (by (with_reducible repeat (first | apply Kd.R_alloc | apply Kd.R_drewN | apply Kd.R_drew)); exact HO_6.out) (Kd.R_typed (by (with_reducible repeat (first | apply Kd.R_alloc | apply Kd.R_drewN | apply Kd.R_drew)); exact HO_10.out)) (by decide) hg); have n3_ := Aside0.mk (hb); have n4_ := Aside0.mk (ho); clear HO_3; clear HO_4; clear HO_6; clear HB; clear HO_10; have HO_3 := n0_; have HO_4 := n1_; have HO_6 := n2_; have HB := n3_; have HO1721024 := n4_; clear n0_ n1_ n2_ n3_ n4_; clear ho hb hg hat))
                       (try simp only [← hl3_3])
                       (try simp only [show (⟨go49, x5_1.toNat, none⟩ : Addr) = (⟨go49, 0, none⟩ : Addr).add x5_1.toNat from (add_plain _ _).symm])
                       go_roundg k3
                       case measure => have := HK1.out; have := HK2.out; have := HK3.out; omega
                       case rel => exact ⟨(y1721021), (y1721022), (wrap64 (x11_3 + 1)), (by first | rfl | (simp; done) | (simp [*]; done)), H', ⟨by have := HK1.out; have := HK2.out; have := HK3.out; omega⟩, ⟨by (try simp only [hl6_2]); (try simp only [hl3_3]); (with_reducible repeat (first | apply Kd.R_alloc | apply Kd.R_drewN | apply Kd.R_drew)); exact HO_3.out⟩, ⟨by (try simp only [hl6_2]); (try simp only [hl3_3]); (with_reducible repeat (first | apply Kd.S_alloc | apply Kd.S_drewN | apply Kd.S_drew)); exact Kd.S_mono HO_4.out (fun _ hk => hk.2)⟩, ⟨by (try simp only [hl6_2]); (try simp only [hl3_3]); (with_reducible repeat (first | apply Kd.R_alloc | apply Kd.R_drewN | apply Kd.R_drew)); exact Kd.R_mono HO_6.out (fun _ hk => hk.2)⟩, ⟨by (try simp only [hl6_2]); (try simp only [hl3_3]); (with_reducible repeat (first | apply Kd.R_alloc | apply Kd.R_drewN | apply Kd.R_drew)); exact HO1721024.out⟩, ⟨by repeat (first | (with_reducible first | exact HB.out | apply below_alloc | apply pw_below_drewN | apply below_drew1) | exact HB.out)⟩⟩
                      ·rw [if_neg c50] at H
                       exact absurd H (by simp)
                     ·rw [if_neg c48] at H
                      exact absurd H (by simp)
                    ·replace c47 := Bool.eq_false_iff.mpr c47
                     subst c47
                     have H1 : (spec_l02Parts.l4 k3 l0 x3_3 x4_1 x5_1 x6_2 x10_3 (wrap64 (x11_3 + 1))) = some r := by rw [if_neg (show ¬ (false = true) by decide)] at H; exact H
                     clear H
                     have H := H1
                     clear H1
                     have H' := Aside0.mk H
                     clear H
                     have p1721020 : 0 ≤ (x11_3 : Int) := of_decide_eq_true (by first | (with_reducible assumption) | assumption)
                     have q1721020 : x11_3 < (x6_2.length : Int) := of_decide_eq_true (by first | (with_reducible assumption) | assumption)
                     obtain ⟨ad1721020, e1721020, hx1721020_0⟩ := Kd.at_bool (Kd.R_reads' HO_6.out).2.2 x11_3 p1721020 q1721020
                     (try rw [← Nbq11.out] at hx1721020_0)
                     (try rw [← Nbq46.out] at hx1721020_0)
                     obtain rfl : (⟨go17, 0, none⟩ : Addr) = ad1721020 := (by injection e1721020)
                     (first | simp only [add_plain] at hx1721020_0 | simp only [add_at] at hx1721020_0 | simp only [Addr.add, Nat.zero_add] at hx1721020_0 | skip)
                     replace p1721020 := eq_true p1721020
                     replace q1721020 := eq_true q1721020
                     go_wp2
                     (try simp only [← hl3_3])
                     (try simp only [show (⟨go49, x5_1.toNat, none⟩ : Addr) = (⟨go49, 0, none⟩ : Addr).add x5_1.toNat from (add_plain _ _).symm])
                     go_roundg k3
                     case measure => have := HK1.out; have := HK2.out; have := HK3.out; omega
                     case rel => exact ⟨(x3_3), (x10_3), (wrap64 (x11_3 + 1)), (by first | rfl | (simp; done) | (simp [*]; done)), H', ⟨by have := HK1.out; have := HK2.out; have := HK3.out; omega⟩, ⟨by (try simp only [hl6_2]); (try simp only [hl3_3]); (with_reducible repeat (first | apply Kd.R_alloc | apply Kd.R_drewN | apply Kd.R_drew)); exact HO_3.out⟩, ⟨by (try simp only [hl6_2]); (try simp only [hl3_3]); (with_reducible repeat (first | apply Kd.S_alloc | apply Kd.S_drewN | apply Kd.S_drew)); exact HO_4.out⟩, ⟨by (try simp only [hl6_2]); (try simp only [hl3_3]); (with_reducible repeat (first | apply Kd.R_alloc | apply Kd.R_drewN | apply Kd.R_drew)); exact HO_6.out⟩, ⟨by (try simp only [hl6_2]); (try simp only [hl3_3]); (with_reducible repeat (first | apply Kd.R_alloc | apply Kd.R_drewN | apply Kd.R_drew)); exact HO_10.out⟩, ⟨by repeat (first | (with_reducible first | exact HB.out | apply below_alloc | apply pw_below_drewN | apply below_drew1) | exact HB.out)⟩⟩
                   ·rw [if_neg c45] at H
                    exact absurd H (by simp)
                  ·rw [if_neg c44] at H
                   exact absurd H (by simp)
                 ·rw [if_neg c43] at H
                  have c43b0 : decide (x11_3 < (l0.length : Int)) = false := decide_eq_false c43
                  clear c43
                  by_cases c54 : x4_1.length < 5864062014805
                  ·rw [if_pos c54] at H
                   have LMc54 := Aside0.mk c54
                   clear c54
                   obtain ⟨y1721025, hy1721025⟩ : ∃ y_ : List (List Int), y_ = (x4_1 ++ [x10_3]) := ⟨_, rfl⟩
                   replace H : (spec_l02Parts.l0 k3 l0 x3_3 y1721025 (wrap64 (x5_1 + 1))) = some r := by first | (rw [hy1721025]; with_reducible exact H) | (have H2_ := (Option.bind_some _ _).symm.trans H; rw [hy1721025]; with_reducible exact H2_) | (have H2_ := (Option.bind_some _ _).symm.trans H; with_reducible exact H2_) | with_reducible exact H | (rw [hy1721025]; exact H) | exact H
                   have Ny1721025 := Aside0.mk hy1721025
                   clear hy1721025
                   have H' := Aside0.mk H
                   clear H
                   obtain ⟨Ao56, co56, eo56⟩ := Kd.R_slice HO_10.out
                   subst eo56
                   go_wp2_with (first | ((with_reducible refine gate_builtin (b := .append) (xs := #[.tmp 87, .tmp 89]) rfl ?_); at_builtin; refine Kd.S_append (Kd.slice 2 (Kd.int .i64)) (w0 := w) w.heap.size rfl (.tmp 87) (.tmp 89) 23 22 (.slice none 0 0) 24 rfl Try.underlying23 info22 rfl (by decide) (by omega) u4 x4_1 x10_3 [.slice Ao56 x10_3.length co56] (fun _ => True) (fun k_ => some k_ = (.slice Ao56 x10_3.length co56 : Value).ownBlock) rfl rfl ?aP (fun k_ hk_ => ((Kd.R_mono (ok' := fun k_ => ((fun _ => True)) k_ ∧ some k_ ≠ (u4 : Value).ownBlock) (Kd.R_apart' (HO_10.out) (Kd.S_typed HO_4.out) (by decide)) (fun k_ hk => ⟨trivial, hk.2⟩))).1 k_ hk_.symm) ?aF ?aO ?aB ?aS ?aL ?_; (case aP => exact Kd.M_row (Kd.R_mono (Kd.R_tight rfl (Kd.R_mono (ok' := fun k_ => ((fun _ => True)) k_ ∧ some k_ ≠ (u4 : Value).ownBlock) (Kd.R_apart' (HO_10.out) (Kd.S_typed HO_4.out) (by decide)) (fun k_ hk => ⟨trivial, hk.2⟩))) (fun _ h_ => h_))); (case aB => exact (by repeat (first | (with_reducible first | exact HB.out | apply below_alloc | apply pw_below_drewN | apply below_drew1) | exact HB.out))); (case aF => exact (fun _ _ => trivial)); (case aO => exact (by (with_reducible repeat (first | apply Kd.S_alloc | apply Kd.S_drewN | apply Kd.S_drew)); exact Kd.S_mono HO_4.out (fun k_ hk => ⟨trivial, fun e_ => hk e_⟩))); (case aS => exact (below_size (by repeat (first | (with_reducible first | exact HB.out | apply below_alloc | apply pw_below_drewN | apply below_drew1) | exact HB.out)))); (case aL => have := LMc54.out; omega); intro v1721026 w55 ho hb hg hat; rw [← Ny1721025.out] at ho; have n0_ := Aside0.mk (Kd.R_over' (by (with_reducible repeat (first | apply Kd.R_alloc | apply Kd.R_drewN | apply Kd.R_drew)); exact HO_3.out) (Kd.S_typed (by (with_reducible repeat (first | apply Kd.S_alloc | apply Kd.S_drewN | apply Kd.S_drew)); exact HO_4.out)) (by decide) hg); have n1_ := Aside0.mk (Kd.R_over' (by (with_reducible repeat (first | apply Kd.R_alloc | apply Kd.R_drewN | apply Kd.R_drew)); exact HO_6.out) (Kd.S_typed (by (with_reducible repeat (first | apply Kd.S_alloc | apply Kd.S_drewN | apply Kd.S_drew)); exact HO_4.out)) (by decide) hg); have n2_ := Aside0.mk (hb); have n3_ := Aside0.mk (ho); clear HO_3; clear HO_6; clear HB; clear HO_4; clear HO_10; have HO_3 := n0_; have HO_6 := n1_; have HB := n2_; have HO1721027 := n3_; clear n0_ n1_ n2_ n3_; clear ho hb hg hat))
                   (try simp only [← hl6_2, ← hl3_3])
                   (try simp only [show (⟨go49, x5_1.toNat, none⟩ : Addr) = (⟨go49, 0, none⟩ : Addr).add x5_1.toNat from (add_plain _ _).symm])
                   go_roundg k3
                   case measure => have := HK1.out; have := HK2.out; have := HK3.out; omega
                   case rel => exact ⟨(x3_3), (y1721025), (wrap64 (x5_1 + 1)), (by first | rfl | (simp; done) | (simp [*]; done)), H', ⟨by have := HK1.out; have := HK2.out; have := HK3.out; omega⟩, ⟨by (try simp only [hl6_2]); (try simp only [hl3_3]); (with_reducible repeat (first | apply Kd.R_alloc | apply Kd.R_drewN | apply Kd.R_drew)); exact Kd.R_mono HO_3.out (fun _ hk => trivial)⟩, ⟨by (try simp only [hl6_2]); (try simp only [hl3_3]); (with_reducible repeat (first | apply Kd.S_alloc | apply Kd.S_drewN | apply Kd.S_drew)); exact HO1721027.out⟩, ⟨by repeat (first | (with_reducible first | exact HB.out | apply below_alloc | apply pw_below_drewN | apply below_drew1) | exact HB.out)⟩⟩
                  ·rw [if_neg c54] at H
                   exact absurd H (by simp)
           ·rw [if_neg c16] at H
            exact absurd H (by simp)
          ·rw [if_neg c15] at H
           exact absurd H (by simp)
         ·rw [if_neg c14] at H
          exact absurd H (by simp)
       ·rw [if_neg c10] at H
        exact absurd H (by simp)
      ·rw [if_neg c9] at H
       exact absurd H (by simp)
     ·rw [if_neg c8] at H
      have c8b0 : decide (x5_1 < (l0.length : Int)) = false := decide_eq_false c8
      clear c8
      obtain rfl := Option.some.inj H
      go_wp2
      go_ret
      exact ⟨_, by first | rfl | (simp [errW_none, errW_some] <;> rfl) | (simp [*, errW_none, errW_some] <;> rfl), by (with_reducible repeat (first | apply Kd.S_alloc | apply Kd.S_drewN | apply Kd.S_drew)); exact HO_4.out, by repeat (first | (with_reducible first | exact HB.out | apply below_alloc | apply pw_below_drewN | apply below_drew1) | exact HB.out)⟩
  ·rw [if_neg c3] at H
   exact absurd H (by simp)
 ·rw [if_neg c2] at H
  exact absurd H (by simp)

end Go.Proofs.Ytnlhhbnoccobmaa.F
