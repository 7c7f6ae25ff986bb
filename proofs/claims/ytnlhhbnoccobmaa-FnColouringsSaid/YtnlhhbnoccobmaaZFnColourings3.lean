/- Words, walks and plain laws that the row of the law FnColourings uses. -/
import Derived.Test.YtnlhhbnoccobmaaZFnColourings2
import Derived.WalkSpells
import Derived.Lib.LazyBuf
import Derived.Deep.RegionLawGrows
import Derived.ArgAppend
import Derived.BigQuiet
import Derived.Deep.RegionWith
import Derived.Deep.RegionHeld3
import Derived.Laws.EntriesVeiled
section
namespace Go.Proofs.Ytnlhhbnoccobmaa.F
open Go.RowKit Go.Proofs.YtnlhhbnoccobmaaW.PrintWords Go.Proofs.YtnlhhbnoccobmaaW.PrintLast Go.Proofs.YtnlhhbnoccobmaaW.PrintMore
attribute [local go_sem] max2_int min2_int max_two min_two max_three min_three max_four min_four   
set_option linter.unusedVariables false
set_option linter.unusedSimpArgs false
mutual
def spec_l02Parts.l0 : Nat → List (List Int) → List Bool → List (List Int) → Int → Option ((List (List Int)))
 | 0, _, _, _, _ => none
 | k + 1, x0, x3, x4, x5 => if x5 < (x0.length : Int) then (if 0 ≤ x5 then (if x5 < (x3.length : Int) then (if rdOf false x3 x5 = true then (spec_l02Parts.l0 k x0 x3 x4 (wrap64 (x5 + 1))) else (if 0 ≤ (x0.length : Int) then (if ((x0.length : Int) : Int).toNat ≤ 281474976710656 then ((some (List.replicate ((x0.length : Int) : Int).toNat false : List Bool)).bind fun y1721008 => (if x5 < (y1721008.length : Int) then (spec_l02Parts.l1 k x0 x3 x4 x5 (y1721008.set (x5 : Int).toNat true) true) else (none))) else (none)) else (none))) else (none)) else (none)) else (some x4)
def spec_l02Parts.l1 : Nat → List (List Int) → List Bool → List (List Int) → Int → List Bool → Bool → Option ((List (List Int)))
 | 0, _, _, _, _, _, _ => none
 | k + 1, x0, x3, x4, x5, x6, x7 => if x7 = true then (spec_l02Parts.l2 k x0 x3 x4 x5 x6 false 0) else (spec_l02Parts.l4 k x0 x3 x4 x5 x6 (([] : List Int)) 0)
def spec_l02Parts.l2 : Nat → List (List Int) → List Bool → List (List Int) → Int → List Bool → Bool → Int → Option ((List (List Int)))
 | 0, _, _, _, _, _, _, _ => none
 | k + 1, x0, x3, x4, x5, x6, x7, x8 => if x8 < (x0.length : Int) then (spec_l02Parts.l3 k x0 x3 x4 x5 x6 x7 x8 0) else (spec_l02Parts.l1 k x0 x3 x4 x5 x6 x7)
def spec_l02Parts.l3 : Nat → List (List Int) → List Bool → List (List Int) → Int → List Bool → Bool → Int → Int → Option ((List (List Int)))
 | 0, _, _, _, _, _, _, _, _ => none
 | k + 1, x0, x3, x4, x5, x6, x7, x8, x9 => if x9 < (x0.length : Int) then (if 0 ≤ x8 then (if x8 < (x6.length : Int) then (spec_l02Parts.j4 k x0 x3 x4 x5 x6 x7 x8 x9 (rdOf false x6 x8)) else (none)) else (none)) else (spec_l02Parts.j4 k x0 x3 x4 x5 x6 x7 x8 x9 false)
def spec_l02Parts.j4 : Nat → List (List Int) → List Bool → List (List Int) → Int → List Bool → Bool → Int → Int → Bool → Option ((List (List Int)))
 | 0, _, _, _, _, _, _, _, _, _ => none
 | k + 1, x0, x3, x4, x5, x6, x7, x8, x9, x48 => if x48 = true then (if 0 ≤ x8 then (if x8 < (x0.length : Int) then (if 0 ≤ x9 then (if x9 < ((rd_L1 x0 x8).length : Int) then (if (rd (rd_L1 x0 x8) x9) = 1 then (if x9 < (x6.length : Int) then (if rdOf false x6 x9 = true then (spec_l02Parts.l3 k x0 x3 x4 x5 x6 x7 x8 (wrap64 (x9 + 1))) else (spec_l02Parts.l3 k x0 x3 x4 x5 (x6.set (x9 : Int).toNat true) true x8 (wrap64 (x9 + 1)))) else (none)) else (spec_l02Parts.l3 k x0 x3 x4 x5 x6 x7 x8 (wrap64 (x9 + 1)))) else (none)) else (none)) else (none)) else (none)) else (spec_l02Parts.l2 k x0 x3 x4 x5 x6 x7 (wrap64 (x8 + 1)))
def spec_l02Parts.l4 : Nat → List (List Int) → List Bool → List (List Int) → Int → List Bool → List Int → Int → Option ((List (List Int)))
 | 0, _, _, _, _, _, _, _ => none
 | k + 1, x0, x3, x4, x5, x6, x10, x11 => if x11 < (x0.length : Int) then (if 0 ≤ x11 then (if x11 < (x6.length : Int) then (if rdOf false x6 x11 = true then (if x11 < (x3.length : Int) then (if x10.length < 17592186044416 then (spec_l02Parts.l4 k x0 (x3.set (x11 : Int).toNat true) x4 x5 x6 (x10 ++ [x11]) (wrap64 (x11 + 1))) else (none)) else (none)) else (spec_l02Parts.l4 k x0 x3 x4 x5 x6 x10 (wrap64 (x11 + 1)))) else (none)) else (none)) else (if x4.length < 5864062014805 then (spec_l02Parts.l0 k x0 x3 (x4 ++ [x10]) (wrap64 (x5 + 1))) else (none))
end
def spec_l02Parts.f (k : Nat) (l0 : List (List Int)) : Option ((List (List Int))) := if 0 ≤ (l0.length : Int) then (if ((l0.length : Int) : Int).toNat ≤ 281474976710656 then (spec_l02Parts.l0 k l0 (List.replicate ((l0.length : Int) : Int).toNat false) (([] : List (List Int))) 0) else (none)) else (none)
theorem spec_l02Parts.mono_l : ∀ k, (∀ y0 y1 y2 y3, LeO (spec_l02Parts.l0 k y0 y1 y2 y3) (spec_l02Parts.l0 (k + 1) y0 y1 y2 y3)) ∧ (∀ y0 y1 y2 y3 y4 y5, LeO (spec_l02Parts.l1 k y0 y1 y2 y3 y4 y5) (spec_l02Parts.l1 (k + 1) y0 y1 y2 y3 y4 y5)) ∧ (∀ y0 y1 y2 y3 y4 y5 y6, LeO (spec_l02Parts.l2 k y0 y1 y2 y3 y4 y5 y6) (spec_l02Parts.l2 (k + 1) y0 y1 y2 y3 y4 y5 y6)) ∧ (∀ y0 y1 y2 y3 y4 y5 y6 y7, LeO (spec_l02Parts.l3 k y0 y1 y2 y3 y4 y5 y6 y7) (spec_l02Parts.l3 (k + 1) y0 y1 y2 y3 y4 y5 y6 y7)) ∧ (∀ y0 y1 y2 y3 y4 y5 y6 y7 y8, LeO (spec_l02Parts.j4 k y0 y1 y2 y3 y4 y5 y6 y7 y8) (spec_l02Parts.j4 (k + 1) y0 y1 y2 y3 y4 y5 y6 y7 y8)) ∧ (∀ y0 y1 y2 y3 y4 y5 y6, LeO (spec_l02Parts.l4 k y0 y1 y2 y3 y4 y5 y6) (spec_l02Parts.l4 (k + 1) y0 y1 y2 y3 y4 y5 y6))
 | 0 => ⟨fun _ _ _ _ r h => by simp [spec_l02Parts.l0] at h, fun _ _ _ _ _ _ r h => by simp [spec_l02Parts.l1] at h, fun _ _ _ _ _ _ _ r h => by simp [spec_l02Parts.l2] at h, fun _ _ _ _ _ _ _ _ r h => by simp [spec_l02Parts.l3] at h, fun _ _ _ _ _ _ _ _ _ r h => by simp [spec_l02Parts.j4] at h, fun _ _ _ _ _ _ _ r h => by simp [spec_l02Parts.l4] at h⟩
 | k + 1 => by
  obtain ⟨ih0, ih1, ih2, ih3, ih4, ih5⟩ := spec_l02Parts.mono_l k
  refine ⟨?_, ?_, ?_, ?_, ?_, ?_⟩
  ·intro y0 y1 y2 y3
   unfold spec_l02Parts.l0
   repeat' first
   | (with_reducible exact ih0 _ _ _ _)
   | (with_reducible exact ih1 _ _ _ _ _ _)
   | (with_reducible exact ih2 _ _ _ _ _ _ _)
   | (with_reducible exact ih3 _ _ _ _ _ _ _ _)
   | (with_reducible exact ih4 _ _ _ _ _ _ _ _ _)
   | (with_reducible exact ih5 _ _ _ _ _ _ _)
   | (with_reducible exact LeO.refl _)
   | (with_reducible exact LeO.none _)
   | (with_reducible refine LeO.ite ?_ ?_)
   | (with_reducible refine LeO.bind ?_ (fun _ => ?_))
   | exact ih0 _ _ _ _
   | exact ih1 _ _ _ _ _ _
   | exact ih2 _ _ _ _ _ _ _
   | exact ih3 _ _ _ _ _ _ _ _
   | exact ih4 _ _ _ _ _ _ _ _ _
   | exact ih5 _ _ _ _ _ _ _
   | exact LeO.none _
   | refine LeO.ite ?_ ?_
   | refine LeO.bind ?_ (fun _ => ?_)
  ·intro y0 y1 y2 y3 y4 y5
   unfold spec_l02Parts.l1
   repeat' first
   | (with_reducible exact ih0 _ _ _ _)
   | (with_reducible exact ih1 _ _ _ _ _ _)
   | (with_reducible exact ih2 _ _ _ _ _ _ _)
   | (with_reducible exact ih3 _ _ _ _ _ _ _ _)
   | (with_reducible exact ih4 _ _ _ _ _ _ _ _ _)
   | (with_reducible exact ih5 _ _ _ _ _ _ _)
   | (with_reducible exact LeO.refl _)
   | (with_reducible exact LeO.none _)
   | (with_reducible refine LeO.ite ?_ ?_)
   | (with_reducible refine LeO.bind ?_ (fun _ => ?_))
   | exact ih0 _ _ _ _
   | exact ih1 _ _ _ _ _ _
   | exact ih2 _ _ _ _ _ _ _
   | exact ih3 _ _ _ _ _ _ _ _
   | exact ih4 _ _ _ _ _ _ _ _ _
   | exact ih5 _ _ _ _ _ _ _
   | exact LeO.none _
   | refine LeO.ite ?_ ?_
   | refine LeO.bind ?_ (fun _ => ?_)
  ·intro y0 y1 y2 y3 y4 y5 y6
   unfold spec_l02Parts.l2
   repeat' first
   | (with_reducible exact ih0 _ _ _ _)
   | (with_reducible exact ih1 _ _ _ _ _ _)
   | (with_reducible exact ih2 _ _ _ _ _ _ _)
   | (with_reducible exact ih3 _ _ _ _ _ _ _ _)
   | (with_reducible exact ih4 _ _ _ _ _ _ _ _ _)
   | (with_reducible exact ih5 _ _ _ _ _ _ _)
   | (with_reducible exact LeO.refl _)
   | (with_reducible exact LeO.none _)
   | (with_reducible refine LeO.ite ?_ ?_)
   | (with_reducible refine LeO.bind ?_ (fun _ => ?_))
   | exact ih0 _ _ _ _
   | exact ih1 _ _ _ _ _ _
   | exact ih2 _ _ _ _ _ _ _
   | exact ih3 _ _ _ _ _ _ _ _
   | exact ih4 _ _ _ _ _ _ _ _ _
   | exact ih5 _ _ _ _ _ _ _
   | exact LeO.none _
   | refine LeO.ite ?_ ?_
   | refine LeO.bind ?_ (fun _ => ?_)
  ·intro y0 y1 y2 y3 y4 y5 y6 y7
   unfold spec_l02Parts.l3
   repeat' first
   | (with_reducible exact ih0 _ _ _ _)
   | (with_reducible exact ih1 _ _ _ _ _ _)
   | (with_reducible exact ih2 _ _ _ _ _ _ _)
   | (with_reducible exact ih3 _ _ _ _ _ _ _ _)
   | (with_reducible exact ih4 _ _ _ _ _ _ _ _ _)
   | (with_reducible exact ih5 _ _ _ _ _ _ _)
   | (with_reducible exact LeO.refl _)
   | (with_reducible exact LeO.none _)
   | (with_reducible refine LeO.ite ?_ ?_)
   | (with_reducible refine LeO.bind ?_ (fun _ => ?_))
   | exact ih0 _ _ _ _
   | exact ih1 _ _ _ _ _ _
   | exact ih2 _ _ _ _ _ _ _
   | exact ih3 _ _ _ _ _ _ _ _
   | exact ih4 _ _ _ _ _ _ _ _ _
   | exact ih5 _ _ _ _ _ _ _
   | exact LeO.none _
   | refine LeO.ite ?_ ?_
   | refine LeO.bind ?_ (fun _ => ?_)
  ·intro y0 y1 y2 y3 y4 y5 y6 y7 y8
   unfold spec_l02Parts.j4
   repeat' first
   | (with_reducible exact ih0 _ _ _ _)
   | (with_reducible exact ih1 _ _ _ _ _ _)
   | (with_reducible exact ih2 _ _ _ _ _ _ _)
   | (with_reducible exact ih3 _ _ _ _ _ _ _ _)
   | (with_reducible exact ih4 _ _ _ _ _ _ _ _ _)
   | (with_reducible exact ih5 _ _ _ _ _ _ _)
   | (with_reducible exact LeO.refl _)
   | (with_reducible exact LeO.none _)
   | (with_reducible refine LeO.ite ?_ ?_)
   | (with_reducible refine LeO.bind ?_ (fun _ => ?_))
   | exact ih0 _ _ _ _
   | exact ih1 _ _ _ _ _ _
   | exact ih2 _ _ _ _ _ _ _
   | exact ih3 _ _ _ _ _ _ _ _
   | exact ih4 _ _ _ _ _ _ _ _ _
   | exact ih5 _ _ _ _ _ _ _
   | exact LeO.none _
   | refine LeO.ite ?_ ?_
   | refine LeO.bind ?_ (fun _ => ?_)
  ·intro y0 y1 y2 y3 y4 y5 y6
   unfold spec_l02Parts.l4
   repeat' first
   | (with_reducible exact ih0 _ _ _ _)
   | (with_reducible exact ih1 _ _ _ _ _ _)
   | (with_reducible exact ih2 _ _ _ _ _ _ _)
   | (with_reducible exact ih3 _ _ _ _ _ _ _ _)
   | (with_reducible exact ih4 _ _ _ _ _ _ _ _ _)
   | (with_reducible exact ih5 _ _ _ _ _ _ _)
   | (with_reducible exact LeO.refl _)
   | (with_reducible exact LeO.none _)
   | (with_reducible refine LeO.ite ?_ ?_)
   | (with_reducible refine LeO.bind ?_ (fun _ => ?_))
   | exact ih0 _ _ _ _
   | exact ih1 _ _ _ _ _ _
   | exact ih2 _ _ _ _ _ _ _
   | exact ih3 _ _ _ _ _ _ _ _
   | exact ih4 _ _ _ _ _ _ _ _ _
   | exact ih5 _ _ _ _ _ _ _
   | exact LeO.none _
   | refine LeO.ite ?_ ?_
   | refine LeO.bind ?_ (fun _ => ?_)
theorem spec_l02Parts.mono : ∀ a0 k, LeO (spec_l02Parts.f k a0) (spec_l02Parts.f (k + 1) a0) := by
 intro a0 k
 obtain ⟨ih0, ih1, ih2, ih3, ih4, ih5⟩ := spec_l02Parts.mono_l k
 unfold spec_l02Parts.f
 repeat' first
   | (with_reducible exact ih0 _ _ _ _)
   | (with_reducible exact ih1 _ _ _ _ _ _)
   | (with_reducible exact ih2 _ _ _ _ _ _ _)
   | (with_reducible exact ih3 _ _ _ _ _ _ _ _)
   | (with_reducible exact ih4 _ _ _ _ _ _ _ _ _)
   | (with_reducible exact ih5 _ _ _ _ _ _ _)
   | (with_reducible exact LeO.refl _)
   | (with_reducible exact LeO.none _)
   | (with_reducible refine LeO.ite ?_ ?_)
   | (with_reducible refine LeO.bind ?_ (fun _ => ?_))
   | exact ih0 _ _ _ _
   | exact ih1 _ _ _ _ _ _
   | exact ih2 _ _ _ _ _ _ _
   | exact ih3 _ _ _ _ _ _ _ _
   | exact ih4 _ _ _ _ _ _ _ _ _
   | exact ih5 _ _ _ _ _ _ _
   | exact LeO.none _
   | refine LeO.ite ?_ ?_
   | refine LeO.bind ?_ (fun _ => ?_)
set_option maxHeartbeats 8000000 in
set_option maxRecDepth 100000 in
theorem spec_l02Parts.calls (k : Nat) (A0 : Option Addr) (c0 : Nat) (l0 : List (List Int)) (r : List (List Int)) (w : World) (hr0 : Kd.C (Kd.slice 2 (Kd.int .i64)) w A0 l0.length l0) (hc0 : l0.length ≤ c0) (h : spec_l02Parts.f k l0 = some r) :
  Calls Try.prog 172 #[.slice A0 l0.length c0] w fun e w' => ∃ v0_ : Value, e = .returned (v0_) ∧ Kd.S (Kd.slice 2 (Kd.int .i64)) 22 w' w.heap.size (fun _ => True) v0_ r ∧ Below w.heap.size w w' := by
 have HR0 := Aside0.mk hr0
 have HC0 := Aside0.mk hc0
 clear hr0 hc0
 have HB := Aside0.mk (Below.refl w.heap.size w)
 have H : (if 0 ≤ (l0.length : Int) then (if ((l0.length : Int) : Int).toNat ≤ 281474976710656 then (spec_l02Parts.l0 k l0 (List.replicate ((l0.length : Int) : Int).toNat false) (([] : List (List Int))) 0) else (none)) else (none)) = some r := h
 clear h
 by_cases c2 : 0 ≤ (l0.length : Int)
 ·rw [if_pos c2] at H
  have c2b0 := eq_true c2
  have c2b1 : decide (0 ≤ (l0.length : Int)) = true := decide_eq_true c2
  clear c2
  by_cases c3 : ((l0.length : Int) : Int).toNat ≤ 281474976710656
  ·rw [if_pos c3] at H
   have c3b0 := eq_true c3
   have c3b1 : decide (((l0.length : Int) : Int).toNat ≤ 281474976710656) = true := decide_eq_true c3
   clear c3
   obtain ⟨y1721001, hy1721001⟩ : ∃ y_ : List Bool, y_ = (List.replicate ((l0.length : Int) : Int).toNat false) := ⟨_, rfl⟩
   replace H : (spec_l02Parts.l0 k l0 y1721001 (([] : List (List Int))) 0) = some r := by first | (rw [hy1721001]; with_reducible exact H) | (have H2_ := (Option.bind_some _ _).symm.trans H; rw [hy1721001]; with_reducible exact H2_) | (have H2_ := (Option.bind_some _ _).symm.trans H; with_reducible exact H2_) | with_reducible exact H | (rw [hy1721001]; exact H) | exact H
   have Ny1721001 := Aside0.mk hy1721001
   clear hy1721001
   obtain ⟨y1721004, hy1721004⟩ : ∃ y_ : List (List Int), y_ = (([] : List (List Int))) := ⟨_, rfl⟩
   replace H : (spec_l02Parts.l0 k l0 y1721001 y1721004 0) = some r := by first | (rw [hy1721004]; with_reducible exact H) | (have H2_ := (Option.bind_some _ _).symm.trans H; rw [hy1721004]; with_reducible exact H2_) | (have H2_ := (Option.bind_some _ _).symm.trans H; with_reducible exact H2_) | with_reducible exact H | (rw [hy1721004]; exact H) | exact H
   have Ny1721004 := Aside0.mk hy1721004
   clear hy1721004
   have H' := Aside0.mk H
   clear H
   go_enter Try.func172, Try.ntmps172
   go_wp2_with (first | ((with_reducible refine gate_dst (N := 14) rfl ?_); refine Kd.R_make Kd.bool _ 4 rfl (N := 14) rfl 149 _ _ rfl (l0.length : Int) rfl rfl Try.underlying149 (.bool false) 1 info4 rfl (by decide) (by omega) false (ok := fun _ => True) (okp := fun _ => True) rfl (fun _ hk => hk) trivial (of_decide_eq_true (by first | (with_reducible assumption) | assumption)) (Nat.le_trans (Nat.mul_le_mul_right _ (of_decide_eq_true (by first | (with_reducible assumption) | assumption) : (l0.length : Int).toNat ≤ 281474976710656)) (by omega)) (Below.refl _ _) (Nat.le_refl _) ?_; intro v1721002 w4 ho5 hb hg_ hnew_; clear hg_ hnew_; (first | rw [← Ny1721001.out] at ho5 | (simp only [Int.reduceToNat] at ho5; rw [← Ny1721001.out] at ho5)); have n0_ := Aside0.mk (Kd.R_lower ho5 (below_size (by repeat (first | (with_reducible first | exact HB.out | apply below_alloc | apply pw_below_drewN | apply below_drew1) | exact HB.out)))); have n1_ := Aside0.mk (below_step (by repeat (first | (with_reducible first | exact HB.out | apply below_alloc | apply pw_below_drewN | apply below_drew1) | exact HB.out)) hb); clear HB; have HO1721003 := n0_; have HB := n1_; clear n0_ n1_; clear hb ho5) | ((with_reducible refine gate_dst (N := 15) rfl ?_); refine Kd.S_lit (Kd.slice 2 (Kd.int .i64)) _ 22 ?hg (N := 15) ?hd (xs := ([] : List (List Int))) (inner := []) (ok := fun _ => True) (okp := fun _ => True) ?hr ?hp (fun _ hk => hk) trivial (Below.refl _ _) (Nat.le_refl _) (by simp) ?_; (case hd => rfl); (case hg => rfl); (case hr => first | (go_simp; done) | (go_simp; rfl)); (case hp => exact (Reps.none _ _)); intro v1721005 w6 ho7 hb hg_ hnew_; clear hg_ hnew_; (first | rw [← Ny1721004.out] at ho7 | (simp only [Int.reduceToNat] at ho7; rw [← Ny1721004.out] at ho7)); have n0_ := Aside0.mk (Kd.R_below (by (with_reducible repeat (first | apply Kd.R_alloc | apply Kd.R_drewN | apply Kd.R_drew)); exact HO1721003.out) hb); have n1_ := Aside0.mk (Kd.S_lower ho7 (below_size (by repeat (first | (with_reducible first | exact HB.out | apply below_alloc | apply pw_below_drewN | apply below_drew1) | exact HB.out)))); have n2_ := Aside0.mk (below_step (by repeat (first | (with_reducible first | exact HB.out | apply below_alloc | apply pw_below_drewN | apply below_drew1) | exact HB.out)) hb); clear HO1721003; clear HB; have HO1721003 := n0_; have HO1721006 := n1_; have HB := n2_; clear n0_ n1_ n2_; clear hb ho7))
   go_loopg [4, 5] k (fun kq v4 v5 w' => ∃ (x3_1 : List Bool) (x4_1 : List (List Int)) (x5_1 : Int), v5 = .int .i64 x5_1 ∧ Aside0 (spec_l02Parts.l0 kq l0 x3_1 x4_1 x5_1 = some r) ∧ Aside0 (kq ≤ k) ∧ Aside0 (Kd.R Kd.bool 4 w' w.heap.size (fun _ => True) v1721002 x3_1) ∧ Aside0 (Kd.S (Kd.slice 2 (Kd.int .i64)) 22 w' w.heap.size (fun _ => True) v4 x4_1) ∧ Aside0 (Below w.heap.size w w'))
   case atStart => exact ⟨(y1721001), (y1721004), (0), (by first | rfl | (simp; done) | (simp [*]; done)), H', ⟨Nat.le_refl _⟩, ⟨by (with_reducible repeat (first | apply Kd.R_alloc | apply Kd.R_drewN | apply Kd.R_drew)); exact HO1721003.out⟩, ⟨by (with_reducible repeat (first | apply Kd.S_alloc | apply Kd.S_drewN | apply Kd.S_drew)); exact HO1721006.out⟩, ⟨by repeat (first | (with_reducible first | exact HB.out | apply below_alloc | apply pw_below_drewN | apply below_drew1) | exact HB.out)⟩⟩
   case round =>
    clear H'
    try clear c1
    try clear c2
    try clear c2b0
    try clear c2b1
    try clear p2
    try clear c3
    try clear c3b0
    try clear c3b1
    obtain ⟨x3_1, x4_1, x5_1, rfl, HA, HK1, HO_3, HO_4, HB⟩ := hrel
    cases gk with
    | zero => exact absurd HA.out (by simp [spec_l02Parts.l0])
    | succ k1 =>
     have H := HA.out
     clear HA
     simp only [spec_l02Parts.l0] at H
     by_cases c8 : x5_1 < (l0.length : Int)
     ·rw [if_pos c8] at H
      have c8b0 : decide (x5_1 < (l0.length : Int)) = true := decide_eq_true c8
      clear c8
      by_cases c9 : 0 ≤ x5_1
      ·rw [if_pos c9] at H
       have c9b0 : decide (0 ≤ x5_1) = true := decide_eq_true c9
       clear c9
       by_cases c10 : x5_1 < (x3_1.length : Int)
       ·rw [if_pos c10] at H
        have c10b0 : decide (x5_1 < (x3_1.length : Int)) = true := decide_eq_true c10
        clear c10
        obtain ⟨bq11, hbq11⟩ : ∃ b_ : Bool, b_ = (rdOf false x3_1 x5_1) := ⟨_, rfl⟩
        replace H : (if bq11 = true then (spec_l02Parts.l0 k1 l0 x3_1 x4_1 (wrap64 (x5_1 + 1))) else (if 0 ≤ (l0.length : Int) then (if ((l0.length : Int) : Int).toNat ≤ 281474976710656 then ((some (List.replicate ((l0.length : Int) : Int).toNat false : List Bool)).bind fun y1721008 => (if x5_1 < (y1721008.length : Int) then (spec_l02Parts.l1 k1 l0 x3_1 x4_1 x5_1 (y1721008.set (x5_1 : Int).toNat true) true) else (none))) else (none)) else (none))) = some r := by rw [← hbq11] at H; exact H
        have Nbq11 := Aside0.mk hbq11
        clear hbq11
        by_cases c12 : bq11 = true
        ·subst c12
         have H1 : (spec_l02Parts.l0 k1 l0 x3_1 x4_1 (wrap64 (x5_1 + 1))) = some r := by rw [if_pos rfl] at H; exact H
         clear H
         have H := H1
         clear H1
         have H' := Aside0.mk H
         clear H
         obtain ⟨Ao13, co13, eo13⟩ := Kd.R_slice HO_3.out
         subst eo13
         have p1721007 : 0 ≤ (x5_1 : Int) := of_decide_eq_true (by first | (with_reducible assumption) | assumption)
         have q1721007 : x5_1 < (x3_1.length : Int) := of_decide_eq_true (by first | (with_reducible assumption) | assumption)
         obtain ⟨ad1721007, e1721007, hx1721007_0⟩ := Kd.at_bool (Kd.R_reads' HO_3.out).2.2 x5_1 p1721007 q1721007
         (try rw [← Nbq11.out] at hx1721007_0)
         cases e1721007
         replace p1721007 := eq_true p1721007
         replace q1721007 := eq_true q1721007
         go_wp2
         go_roundg k1
         case measure => have := HK1.out; omega
         case rel => exact ⟨(x3_1), (x4_1), (wrap64 (x5_1 + 1)), (by first | rfl | (simp; done) | (simp [*]; done)), H', ⟨by have := HK1.out; omega⟩, ⟨by (with_reducible repeat (first | apply Kd.R_alloc | apply Kd.R_drewN | apply Kd.R_drew)); exact HO_3.out⟩, ⟨by (with_reducible repeat (first | apply Kd.S_alloc | apply Kd.S_drewN | apply Kd.S_drew)); exact HO_4.out⟩, ⟨by repeat (first | (with_reducible first | exact HB.out | apply below_alloc | apply pw_below_drewN | apply below_drew1) | exact HB.out)⟩⟩
        ·replace c12 := Bool.eq_false_iff.mpr c12
         subst c12
         have H1 : (if 0 ≤ (l0.length : Int) then (if ((l0.length : Int) : Int).toNat ≤ 281474976710656 then ((some (List.replicate ((l0.length : Int) : Int).toNat false : List Bool)).bind fun y1721008 => (if x5_1 < (y1721008.length : Int) then (spec_l02Parts.l1 k1 l0 x3_1 x4_1 x5_1 (y1721008.set (x5_1 : Int).toNat true) true) else (none))) else (none)) else (none)) = some r := by rw [if_neg (show ¬ (false = true) by decide)] at H; exact H
         clear H
         have H := H1
         clear H1
         by_cases c14 : 0 ≤ (l0.length : Int)
         ·rw [if_pos c14] at H
          have c14b0 := eq_true c14
          have c14b1 : decide (0 ≤ (l0.length : Int)) = true := decide_eq_true c14
          clear c14
          by_cases c15 : ((l0.length : Int) : Int).toNat ≤ 281474976710656
          ·rw [if_pos c15] at H
           have c15b0 := eq_true c15
           have c15b1 : decide (((l0.length : Int) : Int).toNat ≤ 281474976710656) = true := decide_eq_true c15
           clear c15
           obtain ⟨y1721008, hy1721008⟩ : ∃ y_ : List Bool, y_ = (List.replicate ((l0.length : Int) : Int).toNat false) := ⟨_, rfl⟩
           replace H : (if x5_1 < (y1721008.length : Int) then (spec_l02Parts.l1 k1 l0 x3_1 x4_1 x5_1 (y1721008.set (x5_1 : Int).toNat true) true) else (none)) = some r := by first | (rw [hy1721008]; with_reducible exact H) | (have H2_ := (Option.bind_some _ _).symm.trans H; rw [hy1721008]; with_reducible exact H2_) | (have H2_ := (Option.bind_some _ _).symm.trans H; with_reducible exact H2_) | with_reducible exact H | (rw [hy1721008]; exact H) | exact H
           have Ny1721008 := Aside0.mk hy1721008
           clear hy1721008
           by_cases c16 : x5_1 < (y1721008.length : Int)
           ·rw [if_pos c16] at H
            have c16b0 : decide (x5_1 < (y1721008.length : Int)) = true := decide_eq_true c16
            clear c16
            obtain ⟨y1721011, hy1721011⟩ : ∃ y_ : List Bool, y_ = (y1721008.set (x5_1 : Int).toNat true) := ⟨_, rfl⟩
            replace H : (spec_l02Parts.l1 k1 l0 x3_1 x4_1 x5_1 y1721011 true) = some r := by first | (rw [hy1721011]; with_reducible exact H) | (have H2_ := (Option.bind_some _ _).symm.trans H; rw [hy1721011]; with_reducible exact H2_) | (have H2_ := (Option.bind_some _ _).symm.trans H; with_reducible exact H2_) | with_reducible exact H | (rw [hy1721011]; exact H) | exact H
            have Ny1721011 := Aside0.mk hy1721011
            clear hy1721011
            have H' := Aside0.mk H
            clear H
            obtain ⟨Ao18, co18, eo18⟩ := Kd.R_slice HO_3.out
            subst eo18
            have p1721007 : 0 ≤ (x5_1 : Int) := of_decide_eq_true (by first | (with_reducible assumption) | assumption)
            have q1721007 : x5_1 < (x3_1.length : Int) := of_decide_eq_true (by first | (with_reducible assumption) | assumption)
            obtain ⟨ad1721007, e1721007, hx1721007_0⟩ := Kd.at_bool (Kd.R_reads' HO_3.out).2.2 x5_1 p1721007 q1721007
            (try rw [← Nbq11.out] at hx1721007_0)
            cases e1721007
            replace p1721007 := eq_true p1721007
            replace q1721007 := eq_true q1721007
            go_wp2_with (first | ((with_reducible refine gate_dst (N := 28) rfl ?_); refine Kd.R_make Kd.bool _ 4 rfl (N := 28) rfl 149 _ _ rfl (l0.length : Int) rfl rfl Try.underlying149 (.bool false) 1 info4 rfl (by decide) (by omega) false (ok := fun _ => True) (okp := fun _ => True) rfl (fun _ hk => hk) trivial (of_decide_eq_true (by first | (with_reducible assumption) | assumption)) (Nat.le_trans (Nat.mul_le_mul_right _ (of_decide_eq_true (by first | (with_reducible assumption) | assumption) : (l0.length : Int).toNat ≤ 281474976710656)) (by omega)) (Below.refl _ _) (Nat.le_refl _) ?_; intro v1721009 w19 ho20 hb hg_ hnew_; clear hg_ hnew_; (first | rw [← Ny1721008.out] at ho20 | (simp only [Int.reduceToNat] at ho20; rw [← Ny1721008.out] at ho20)); have n0_ := Aside0.mk (Kd.R_elder' (by (with_reducible repeat (first | apply Kd.R_alloc | apply Kd.R_drewN | apply Kd.R_drew)); exact HO_3.out) (Kd.R_base ho20) hb); have n1_ := Aside0.mk (Kd.S_below (by (with_reducible repeat (first | apply Kd.S_alloc | apply Kd.S_drewN | apply Kd.S_drew)); exact HO_4.out) hb); have n2_ := Aside0.mk (Kd.R_lower (Kd.R_new' ho20 (Kd.R_lt (by (with_reducible repeat (first | apply Kd.R_alloc | apply Kd.R_drewN | apply Kd.R_drew)); exact HO_3.out))) (below_size (by repeat (first | (with_reducible first | exact HB.out | apply below_alloc | apply pw_below_drewN | apply below_drew1) | exact HB.out)))); have n3_ := Aside0.mk (below_step (by repeat (first | (with_reducible first | exact HB.out | apply below_alloc | apply pw_below_drewN | apply below_drew1) | exact HB.out)) hb); clear HO_3; clear HO_4; clear HB; have HO_3 := n0_; have HO_4 := n1_; have HO1721010 := n2_; have HB := n3_; clear n0_ n1_ n2_ n3_; clear hb ho20; have p17 : 0 ≤ (x5_1 : Int) := of_decide_eq_true (by first | (with_reducible assumption) | assumption); have q17 : (x5_1 : Int) < ((y1721008.length : Int) : Int) := of_decide_eq_true (by first | (with_reducible assumption) | assumption); obtain ⟨go17, co17, eo17, gb17, gl17, cl17, HG17⟩ := Kd.R_form HO1721010.out (by omega); (first | cases eo17 | (injection eo17 with ea_ en_ ec_; (first | subst ea_ | (injection ea_ with ea_; subst ea_)); subst ec_; clear en_)); have GB17 := Aside0.mk gb17; have GG17 := Aside0.mk HG17; clear gb17 gl17 HG17; obtain ⟨hx17_0, hf17_0⟩ := Kd.R_celln false HO1721010.out (x5_1 : Int) p17 q17; replace p17 := eq_true p17; replace q17 := eq_true q17; have n_ := Aside0.mk (Kd.R_mono (ok' := (fun k_ => some k_ ≠ (.slice (some ad1721007) x3_1.length co18 : Value).ownBlock)) HO1721010.out (fun k_ hk => hk.2)); clear HO1721010; have HO1721010 := n_; clear n_; obtain ⟨hy21_, hz21_⟩ := Kd.R_celln false HO1721010.out (x5_1 : Int) (of_decide_eq_true (by first | (with_reducible assumption) | assumption)) (of_decide_eq_true (by first | (with_reducible assumption) | assumption)); have HP21 := Kd.R_putg HO1721010.out (x5_1 : Int) true) | ((with_reducible refine gate_store (t := 4) (p := 31) rfl ?_); refine store_event (t := 4) (p := 31) (v := ?vo_w22) (w1 := (w19.setCell ⟨go17, (x5_1 : Int).toNat, none⟩ (.bool true))) ?hg ?ho ?hn ?hr ?_; (case ho => rfl); (case hg => rfl); (case hn => rfl); (case hr => first | (go_simp; done) | (go_simp; rfl)); intro w22 hw; have hg : w19.grownBy w22 (some go17) := (by rw [hw]; exact HP21.2); have hp_ : Kd.R Kd.bool 4 w22 w.heap.size (fun k_ => some k_ ≠ (.slice (some ad1721007) x3_1.length co18 : Value).ownBlock) (.slice (some ⟨go17, 0, none⟩) y1721008.length co17) y1721011 := (by rw [hw, Ny1721011.out]; exact HP21.1); clear HP21; have n0_ := Aside0.mk (Kd.R_after (v := (.slice (some ⟨go17, 0, none⟩) y1721008.length co17)) (v1 := (.slice (some ⟨go17, 0, none⟩) y1721008.length co17)) (ok := (fun _ => True)) (by (with_reducible repeat (first | apply Kd.R_alloc | apply Kd.R_drewN | apply Kd.R_drew)); exact HO_3.out) hg (.inl rfl)); have n1_ := Aside0.mk (Kd.S_over' (v := (.slice (some ⟨go17, 0, none⟩) y1721008.length co17)) (by (with_reducible repeat (first | apply Kd.S_alloc | apply Kd.S_drewN | apply Kd.S_drew)); exact HO_4.out) (Kd.R_typed HO1721010.out) (by decide) hg); have n2_ := Aside0.mk (hp_); have n3_ := Aside0.mk ((by rw [hw]; exact below_set (HB.out) GB17.out : Below w.heap.size w w22)); clear HO_3; clear HO_4; clear HO1721010; clear HB; have HO_3 := n0_; have HO_4 := n1_; have HO1721010 := n2_; have HB := n3_; clear n0_ n1_ n2_ n3_; clear hg hw hp_))
            go_loopg [7] k1 (fun kq v7 w' => ∃ (x6_2 : List Bool) (x7_2 : Bool), v7 = .bool x7_2 ∧ Aside0 (spec_l02Parts.l1 kq l0 x3_1 x4_1 x5_1 x6_2 x7_2 = some r) ∧ Aside0 (kq ≤ k1) ∧ Aside0 (Kd.R Kd.bool 4 w' w.heap.size (fun k_ => some k_ ≠ ((.slice (some ⟨go17, 0, none⟩) y1721008.length co17) : Value).ownBlock) (.slice (some ad1721007) x3_1.length co18) x3_1) ∧ Aside0 (Kd.S (Kd.slice 2 (Kd.int .i64)) 22 w' w.heap.size (fun _ => True) u4 x4_1) ∧ Aside0 (Kd.R Kd.bool 4 w' w.heap.size (fun k_ => some k_ ≠ ((.slice (some ad1721007) x3_1.length co18) : Value).ownBlock) (.slice (some ⟨go17, 0, none⟩) y1721008.length co17) x6_2) ∧ Aside0 (Below w.heap.size w w'))
            case atStart => exact ⟨(y1721011), (true), (by first | rfl | (simp; done) | (simp [*]; done)), H', ⟨Nat.le_refl _⟩, ⟨by (with_reducible repeat (first | apply Kd.R_alloc | apply Kd.R_drewN | apply Kd.R_drew)); exact Kd.R_mono HO_3.out (fun _ hk => hk.2)⟩, ⟨by (with_reducible repeat (first | apply Kd.S_alloc | apply Kd.S_drewN | apply Kd.S_drew)); exact HO_4.out⟩, ⟨by (with_reducible repeat (first | apply Kd.R_alloc | apply Kd.R_drewN | apply Kd.R_drew)); exact HO1721010.out⟩, ⟨by repeat (first | (with_reducible first | exact HB.out | apply below_alloc | apply pw_below_drewN | apply below_drew1) | exact HB.out)⟩⟩
            case round =>
             clear H'
             try clear c1
             try clear p1
             try clear q1
             try clear hx1
             try clear hf1
             try clear c2
             try clear c2b0
             try clear c2b1
             try clear p2
             try clear c3
             try clear c3b0
             try clear c3b1
             try clear p6
             try clear c8
             try clear c8b0
             try clear c9
             try clear c9b0
             try clear c10
             try clear c10b0
             try clear q11
             try clear c12
             try clear c14
             try clear c14b0
             try clear c14b1
             try clear c15
             try clear c15b0
             try clear c15b1
             try clear c16
             try clear c16b0
             try clear c17
             try clear p17
             try clear q17
             try clear hx17
             try clear hf17
             try clear hx1721007_0
             try clear hx17_0
             try clear p17
             try clear p1721007
             try clear p2
             try clear q17
             try clear q1721007
             obtain ⟨x6_2, x7_2, rfl, HA, HK2, HO_3, HO_4, HO_6, HB⟩ := hrel
             have hl6_2 := (Kd.R_reads' HO_6.out).1
             rw [hl6_2] at HO_6
             (try simp only [hl6_2])
             (try simp only [hl6_2] at HO_3)
             (try simp only [hl6_2] at HO_4)
             cases gk with
             | zero => exact absurd HA.out (by simp [spec_l02Parts.l1])
             | succ k2 =>
              have H := HA.out
              clear HA
              simp only [spec_l02Parts.l1] at H
              by_cases c23 : x7_2 = true
              ·subst c23
               have H1 : (spec_l02Parts.l2 k2 l0 x3_1 x4_1 x5_1 x6_2 false 0) = some r := by rw [if_pos rfl] at H; exact H
               clear H
               have H := H1
               clear H1
               have H' := Aside0.mk H
               clear H
               go_wp2
               go_loopg [7, 8] k2 (fun kq v7 v8 w' => ∃ (x6_3 : List Bool) (x7_3 : Bool) (x8_3 : Int), v7 = .bool x7_3 ∧ v8 = .int .i64 x8_3 ∧ Aside0 (spec_l02Parts.l2 kq l0 x3_1 x4_1 x5_1 x6_3 x7_3 x8_3 = some r) ∧ Aside0 (kq ≤ k2) ∧ Aside0 (Kd.R Kd.bool 4 w' w.heap.size (fun k_ => some k_ ≠ ((.slice (some ⟨go17, 0, none⟩) x6_2.length co17) : Value).ownBlock) (.slice (some ad1721007) x3_1.length co18) x3_1) ∧ Aside0 (Kd.S (Kd.slice 2 (Kd.int .i64)) 22 w' w.heap.size (fun _ => True) u4 x4_1) ∧ Aside0 (Kd.R Kd.bool 4 w' w.heap.size (fun k_ => some k_ ≠ ((.slice (some ad1721007) x3_1.length co18) : Value).ownBlock) (.slice (some ⟨go17, 0, none⟩) x6_2.length co17) x6_3) ∧ Aside0 (Below w.heap.size w w'))
               case atStart => exact ⟨(x6_2), (false), (0), (by first | rfl | (simp; done) | (simp [*]; done)), (by first | rfl | (simp; done) | (simp [*]; done)), H', ⟨Nat.le_refl _⟩, ⟨by (try simp only [hl6_2]); (with_reducible repeat (first | apply Kd.R_alloc | apply Kd.R_drewN | apply Kd.R_drew)); exact HO_3.out⟩, ⟨by (try simp only [hl6_2]); (with_reducible repeat (first | apply Kd.S_alloc | apply Kd.S_drewN | apply Kd.S_drew)); exact HO_4.out⟩, ⟨by (try simp only [hl6_2]); (with_reducible repeat (first | apply Kd.R_alloc | apply Kd.R_drewN | apply Kd.R_drew)); exact HO_6.out⟩, ⟨by repeat (first | (with_reducible first | exact HB.out | apply below_alloc | apply pw_below_drewN | apply below_drew1) | exact HB.out)⟩⟩
               case round =>
                clear H'
                try clear c1
                try clear p1
                try clear q1
                try clear hx1
                try clear hf1
                try clear c2
                try clear c2b0
                try clear c2b1
                try clear p2
                try clear c3
                try clear c3b0
                try clear c3b1
                try clear p6
                try clear c8
                try clear c8b0
                try clear c9
                try clear c9b0
                try clear c10
                try clear c10b0
                try clear q11
                try clear c12
                try clear c14
                try clear c14b0
                try clear c14b1
                try clear c15
                try clear c15b0
                try clear c15b1
                try clear c16
                try clear c16b0
                try clear c17
                try clear p17
                try clear q17
                try clear hx17
                try clear hf17
                try clear c23
                try clear hx1721007_0
                try clear hx17_0
                try clear p1
                try clear p17
                try clear p1721007
                try clear p2
                try clear p6
                try clear q1
                try clear q11
                try clear q17
                try clear q1721007
                obtain ⟨x6_3, x7_3, x8_3, rfl, rfl, HA, HK3, HO_3, HO_4, HO_6, HB⟩ := hrel
                have hl6_3 := (Kd.R_reads' HO_6.out).1
                rw [hl6_3] at HO_6
                (try simp only [hl6_3])
                (try simp only [hl6_3] at HO_3)
                (try simp only [hl6_3] at HO_4)
                cases gk with
                | zero => exact absurd HA.out (by simp [spec_l02Parts.l2])
                | succ k3 =>
                 have H := HA.out
                 clear HA
                 simp only [spec_l02Parts.l2] at H
                 by_cases c24 : x8_3 < (l0.length : Int)
                 ·rw [if_pos c24] at H
                  have c24b0 : decide (x8_3 < (l0.length : Int)) = true := decide_eq_true c24
                  clear c24
                  have H' := Aside0.mk H
                  clear H
                  go_wp2
                  go_loopg [7, 9] k3 (fun kq v7 v9 w' => ∃ (x6_4 : List Bool) (x7_4 : Bool) (x9_4 : Int), v7 = .bool x7_4 ∧ v9 = .int .i64 x9_4 ∧ Aside0 (spec_l02Parts.l3 kq l0 x3_1 x4_1 x5_1 x6_4 x7_4 x8_3 x9_4 = some r) ∧ Aside0 (kq ≤ k3) ∧ Aside0 (Kd.R Kd.bool 4 w' w.heap.size (fun k_ => some k_ ≠ ((.slice (some ⟨go17, 0, none⟩) x6_3.length co17) : Value).ownBlock) (.slice (some ad1721007) x3_1.length co18) x3_1) ∧ Aside0 (Kd.S (Kd.slice 2 (Kd.int .i64)) 22 w' w.heap.size (fun _ => True) u4 x4_1) ∧ Aside0 (Kd.R Kd.bool 4 w' w.heap.size (fun k_ => some k_ ≠ ((.slice (some ad1721007) x3_1.length co18) : Value).ownBlock) (.slice (some ⟨go17, 0, none⟩) x6_3.length co17) x6_4) ∧ Aside0 (Below w.heap.size w w'))
                  case atStart => exact ⟨(x6_3), (x7_3), (0), (by first | rfl | (simp; done) | (simp [*]; done)), (by first | rfl | (simp; done) | (simp [*]; done)), H', ⟨Nat.le_refl _⟩, ⟨by (try simp only [hl6_2]); (try simp only [hl6_3]); (with_reducible repeat (first | apply Kd.R_alloc | apply Kd.R_drewN | apply Kd.R_drew)); exact HO_3.out⟩, ⟨by (try simp only [hl6_2]); (try simp only [hl6_3]); (with_reducible repeat (first | apply Kd.S_alloc | apply Kd.S_drewN | apply Kd.S_drew)); exact HO_4.out⟩, ⟨by (try simp only [hl6_2]); (try simp only [hl6_3]); (with_reducible repeat (first | apply Kd.R_alloc | apply Kd.R_drewN | apply Kd.R_drew)); exact HO_6.out⟩, ⟨by repeat (first | (with_reducible first | exact HB.out | apply below_alloc | apply pw_below_drewN | apply below_drew1) | exact HB.out)⟩⟩
                  case round =>
                   clear H'
                   try clear c1
                   try clear p1
                   try clear q1
                   try clear hx1
                   try clear hf1
                   try clear c2
                   try clear c2b0
                   try clear c2b1
                   try clear p2
                   try clear c3
                   try clear c3b0
                   try clear c3b1
                   try clear p6
                   try clear c8
                   try clear c8b0
                   try clear c9
                   try clear c9b0
                   try clear c10
                   try clear c10b0
                   try clear q11
                   try clear c12
                   try clear c14
                   try clear c14b0
                   try clear c14b1
                   try clear c15
                   try clear c15b0
                   try clear c15b1
                   try clear c16
                   try clear c16b0
                   try clear c17
                   try clear p17
                   try clear q17
                   try clear hx17
                   try clear hf17
                   try clear c23
                   try clear c24
                   try clear c24b0
                   try clear hx1721007_0
                   try clear hx17_0
                   try clear p1
                   try clear p17
                   try clear p1721007
                   try clear p2
                   try clear p6
                   try clear q1
                   try clear q11
                   try clear q17
                   try clear q1721007
                   obtain ⟨x6_4, x7_4, x9_4, rfl, rfl, HA, HK4, HO_3, HO_4, HO_6, HB⟩ := hrel
                   have hl6_4 := (Kd.R_reads' HO_6.out).1
                   rw [hl6_4] at HO_6
                   (try simp only [hl6_4])
                   (try simp only [hl6_4] at HO_3)
                   (try simp only [hl6_4] at HO_4)
                   cases gk with
                   | zero => exact absurd HA.out (by simp [spec_l02Parts.l3])
                   | succ k4 =>
                    have H := HA.out
                    clear HA
                    simp only [spec_l02Parts.l3] at H
                    have HC25 := Aside0.mk H
                    clear H
                    go_upto_region 15 with (fail)
                    go_cut [48] (fun v48 wc => ∃ (kq : Nat) (x48_24 : Bool), v48 = .bool x48_24 ∧ Aside0 (spec_l02Parts.j4 kq l0 x3_1 x4_1 x5_1 x6_4 x7_4 x8_3 x9_4 x48_24 = some r) ∧ Aside0 (kq ≤ k4) ∧ Aside0 (Kd.R Kd.bool 4 wc w.heap.size (fun k_ => some k_ ≠ ((.slice (some ⟨go17, 0, none⟩) x6_4.length co17) : Value).ownBlock) (.slice (some ad1721007) x3_1.length co18) x3_1) ∧ Aside0 (Kd.S (Kd.slice 2 (Kd.int .i64)) 22 wc w.heap.size (fun _ => True) u4 x4_1) ∧ Aside0 (Kd.R Kd.bool 4 wc w.heap.size (fun k_ => some k_ ≠ ((.slice (some ad1721007) x3_1.length co18) : Value).ownBlock) (.slice (some ⟨go17, 0, none⟩) x6_4.length co17) x6_4) ∧ Aside0 (Below w.heap.size w wc))
                    case first =>
                     have H := HC25.out
                     clear HC25
                     by_cases c26 : x9_4 < (l0.length : Int)
                     ·rw [if_pos c26] at H
                      have c26b0 : decide (x9_4 < (l0.length : Int)) = true := decide_eq_true c26
                      clear c26
                      (first | rw [c26b0] | (simp only [i64_w, i32_w]; rw [c26b0]) | skip)
                      by_cases c27 : 0 ≤ x8_3
                      ·rw [if_pos c27] at H
                       have c27b0 : decide (0 ≤ x8_3) = true := decide_eq_true c27
                       clear c27
                       by_cases c28 : x8_3 < (x6_4.length : Int)
                       ·rw [if_pos c28] at H
                        have c28b0 : decide (x8_3 < (x6_4.length : Int)) = true := decide_eq_true c28
                        clear c28
                        have H' := Aside0.mk H
                        clear H
                        have p1721012 : 0 ≤ (x8_3 : Int) := of_decide_eq_true (by first | (with_reducible assumption) | assumption)
                        have q1721012 : x8_3 < (x6_4.length : Int) := of_decide_eq_true (by first | (with_reducible assumption) | assumption)
                        obtain ⟨ad1721012, e1721012, hx1721012_0⟩ := Kd.at_bool (Kd.R_reads' HO_6.out).2.2 x8_3 p1721012 q1721012
                        (try rw [← Nbq11.out] at hx1721012_0)
                        obtain rfl : (⟨go17, 0, none⟩ : Addr) = ad1721012 := (by injection e1721012)
                        (first | simp only [add_plain] at hx1721012_0 | simp only [add_at] at hx1721012_0 | simp only [Addr.add, Nat.zero_add] at hx1721012_0 | skip)
                        replace p1721012 := eq_true p1721012
                        replace q1721012 := eq_true q1721012
                        go_wp2
                        go_meet
                        case rel => exact ⟨_, (rdOf false x6_4 x8_3), (by first | rfl | (simp; done) | (simp [*]; done)), H', ⟨by have := HK1.out; have := HK2.out; have := HK3.out; have := HK4.out; first | omega | exact Nat.le_refl _⟩, ⟨by (try simp only [hl6_2]); (try simp only [hl6_3]); (try simp only [hl6_4]); (with_reducible repeat (first | apply Kd.R_alloc | apply Kd.R_drewN | apply Kd.R_drew)); exact HO_3.out⟩, ⟨by (try simp only [hl6_2]); (try simp only [hl6_3]); (try simp only [hl6_4]); (with_reducible repeat (first | apply Kd.S_alloc | apply Kd.S_drewN | apply Kd.S_drew)); exact HO_4.out⟩, ⟨by (try simp only [hl6_2]); (try simp only [hl6_3]); (try simp only [hl6_4]); (with_reducible repeat (first | apply Kd.R_alloc | apply Kd.R_drewN | apply Kd.R_drew)); exact HO_6.out⟩, ⟨by repeat (first | (with_reducible first | exact HB.out | apply below_alloc | apply pw_below_drewN | apply below_drew1) | exact HB.out)⟩⟩
                       ·rw [if_neg c28] at H
                        exact absurd H (by simp)
                      ·rw [if_neg c27] at H
                       exact absurd H (by simp)
                     ·rw [if_neg c26] at H
                      have c26b0 : decide (x9_4 < (l0.length : Int)) = false := decide_eq_false c26
                      clear c26
                      (first | rw [c26b0] | (simp only [i64_w, i32_w]; rw [c26b0]) | skip)
                      have H' := Aside0.mk H
                      clear H
                      go_wp2
                      go_meet
                      case rel => exact ⟨_, (false), (by first | rfl | (simp; done) | (simp [*]; done)), H', ⟨by have := HK1.out; have := HK2.out; have := HK3.out; have := HK4.out; first | omega | exact Nat.le_refl _⟩, ⟨by (try simp only [hl6_2]); (try simp only [hl6_3]); (try simp only [hl6_4]); (with_reducible repeat (first | apply Kd.R_alloc | apply Kd.R_drewN | apply Kd.R_drew)); exact HO_3.out⟩, ⟨by (try simp only [hl6_2]); (try simp only [hl6_3]); (try simp only [hl6_4]); (with_reducible repeat (first | apply Kd.S_alloc | apply Kd.S_drewN | apply Kd.S_drew)); exact HO_4.out⟩, ⟨by (try simp only [hl6_2]); (try simp only [hl6_3]); (try simp only [hl6_4]); (with_reducible repeat (first | apply Kd.R_alloc | apply Kd.R_drewN | apply Kd.R_drew)); exact HO_6.out⟩, ⟨by repeat (first | (with_reducible first | exact HB.out | apply below_alloc | apply pw_below_drewN | apply below_drew1) | exact HB.out)⟩⟩
                    case rest =>
                     clear HC25
                     try clear c1
                     try clear p1
                     try clear q1
                     try clear hx1
                     try clear hf1
                     try clear c2
                     try clear c2b0
                     try clear c2b1
                     try clear p2
                     try clear c3
                     try clear c3b0
                     try clear c3b1
                     try clear p6
                     try clear c8
                     try clear c8b0
                     try clear c9
                     try clear c9b0
                     try clear c10
                     try clear c10b0
                     try clear q11
                     try clear c12
                     try clear c14
                     try clear c14b0
                     try clear c14b1
                     try clear c15
                     try clear c15b0
                     try clear c15b1
                     try clear c16
                     try clear c16b0
                     try clear c17
                     try clear p17
                     try clear q17
                     try clear hx17
                     try clear hf17
                     try clear c23
                     try clear c24
                     try clear c24b0
                     try clear c26
                     try clear c26b0
                     try clear c27
                     try clear c27b0
                     try clear c28
                     try clear c28b0
                     try clear hx1721007_0
                     try clear hx1721012_0
                     try clear hx17_0
                     try clear p1
                     try clear p17
                     try clear p1721007
                     try clear p1721012
                     try clear p2
                     try clear p6
                     try clear q1
                     try clear q11
                     try clear q17
                     try clear q1721007
                     try clear q1721012
                     obtain ⟨kq, x48_24, rfl, HA, HJ24, HO_3, HO_4, HO_6, HB⟩ := hcut
                     cases kq with
                     | zero => exact absurd HA.out (by simp [spec_l02Parts.j4])
                     | succ kj24 =>
                      have H := HA.out
                      clear HA
                      simp only [spec_l02Parts.j4] at H
                      by_cases c29 : x48_24 = true
                      ·subst c29
                       have H1 : (if 0 ≤ x8_3 then (if x8_3 < (l0.length : Int) then (if 0 ≤ x9_4 then (if x9_4 < ((rd_L1 l0 x8_3).length : Int) then (if (rd (rd_L1 l0 x8_3) x9_4) = 1 then (if x9_4 < (x6_4.length : Int) then (if rdOf false x6_4 x9_4 = true then (spec_l02Parts.l3 kj24 l0 x3_1 x4_1 x5_1 x6_4 x7_4 x8_3 (wrap64 (x9_4 + 1))) else (spec_l02Parts.l3 kj24 l0 x3_1 x4_1 x5_1 (x6_4.set (x9_4 : Int).toNat true) true x8_3 (wrap64 (x9_4 + 1)))) else (none)) else (spec_l02Parts.l3 kj24 l0 x3_1 x4_1 x5_1 x6_4 x7_4 x8_3 (wrap64 (x9_4 + 1)))) else (none)) else (none)) else (none)) else (none)) = some r := by rw [if_pos rfl] at H; exact H
                       clear H
                       have H := H1
                       clear H1
                       by_cases c30 : 0 ≤ x8_3
                       ·rw [if_pos c30] at H
                        have c30b0 : decide (0 ≤ x8_3) = true := decide_eq_true c30
                        clear c30
                        by_cases c31 : x8_3 < (l0.length : Int)
                        ·rw [if_pos c31] at H
                         have c31b0 : decide (x8_3 < (l0.length : Int)) = true := decide_eq_true c31
                         clear c31
                         by_cases c32 : 0 ≤ x9_4
                         ·rw [if_pos c32] at H
                          have c32b0 : decide (0 ≤ x9_4) = true := decide_eq_true c32
                          clear c32
                          by_cases c33 : x9_4 < ((rd_L1 l0 x8_3).length : Int)
                          ·rw [if_pos c33] at H
                           have c33b0 : decide (x9_4 < ((rd_L1 l0 x8_3).length : Int)) = true := decide_eq_true c33
                           clear c33
                           by_cases c34 : (rd (rd_L1 l0 x8_3) x9_4) = 1
                           ·rw [if_pos c34] at H
                            have c34b0 : ((rd (rd_L1 l0 x8_3) x9_4) == 1) = true := beq_iff_eq.mpr c34
                            have c34b1 : ((rd (rd_L1 l0 x8_3) x9_4) != 1) = false := bne_eq_false_iff_eq.mpr c34
                            clear c34
                            by_cases c35 : x9_4 < (x6_4.length : Int)
                            ·rw [if_pos c35] at H
                             have c35b0 : decide (x9_4 < (x6_4.length : Int)) = true := decide_eq_true c35
                             clear c35
                             obtain ⟨bq36, hbq36⟩ : ∃ b_ : Bool, b_ = (rdOf false x6_4 x9_4) := ⟨_, rfl⟩
                             replace H : (if bq36 = true then (spec_l02Parts.l3 kj24 l0 x3_1 x4_1 x5_1 x6_4 x7_4 x8_3 (wrap64 (x9_4 + 1))) else (spec_l02Parts.l3 kj24 l0 x3_1 x4_1 x5_1 (x6_4.set (x9_4 : Int).toNat true) true x8_3 (wrap64 (x9_4 + 1)))) = some r := by rw [← hbq36] at H; exact H
                             have Nbq36 := Aside0.mk hbq36
                             clear hbq36
                             by_cases c37 : bq36 = true
                             ·subst c37
                              have H1 : (spec_l02Parts.l3 kj24 l0 x3_1 x4_1 x5_1 x6_4 x7_4 x8_3 (wrap64 (x9_4 + 1))) = some r := by rw [if_pos rfl] at H; exact H
                              clear H
                              have H := H1
                              clear H1
                              have H' := Aside0.mk H
                              clear H
                              have p1721013 : 0 ≤ (x8_3 : Int) := of_decide_eq_true (by first | (with_reducible assumption) | assumption)
                              have q1721013 : x8_3 < (l0.length : Int) := of_decide_eq_true (by first | (with_reducible assumption) | assumption)
                              obtain ⟨ad1721013, A1721013_0, c1721013_0, e1721013, hx1721013_0, hl1721013_0, hi1721013_0⟩ := at_L1 HR0.out x8_3 p1721013 q1721013
                              cases e1721013
                              replace hx1721013_0 := (HB.out.cell (World.block_lt_of_cell? w _ hx1721013_0)).trans hx1721013_0
                              have HR1721013_0 := Aside0.mk hi1721013_0
                              have HC1721013_0 := Aside0.mk hl1721013_0
                              clear hi1721013_0 hl1721013_0
                              replace p1721013 := eq_true p1721013
                              replace q1721013 := eq_true q1721013
                              have p1721014 : 0 ≤ (x9_4 : Int) := of_decide_eq_true (by first | (with_reducible assumption) | assumption)
                              have q1721014 : x9_4 < ((rd_L1 l0 x8_3).length : Int) := of_decide_eq_true (by first | (with_reducible assumption) | assumption)
                              obtain ⟨ad1721014, e1721014, hx1721014_0⟩ := Kd.at_int HR1721013_0.out x9_4 p1721014 q1721014
                              cases e1721014
                              replace hx1721014_0 := (HB.out.cell (World.block_lt_of_cell? w _ hx1721014_0)).trans hx1721014_0
                              replace p1721014 := eq_true p1721014
                              replace q1721014 := eq_true q1721014
                              have p1721015 : 0 ≤ (x9_4 : Int) := of_decide_eq_true (by first | (with_reducible assumption) | assumption)
                              have q1721015 : x9_4 < (x6_4.length : Int) := of_decide_eq_true (by first | (with_reducible assumption) | assumption)
                              obtain ⟨ad1721015, e1721015, hx1721015_0⟩ := Kd.at_bool (Kd.R_reads' HO_6.out).2.2 x9_4 p1721015 q1721015
                              (try rw [← Nbq11.out] at hx1721015_0)
                              (try rw [← Nbq36.out] at hx1721015_0)
                              obtain rfl : (⟨go17, 0, none⟩ : Addr) = ad1721015 := (by injection e1721015)
                              (first | simp only [add_plain] at hx1721015_0 | simp only [add_at] at hx1721015_0 | simp only [Addr.add, Nat.zero_add] at hx1721015_0 | skip)
                              replace p1721015 := eq_true p1721015
                              replace q1721015 := eq_true q1721015
                              go_wp2
                              (try simp only [← hl6_4])
                              go_roundg kj24
                              case measure => have := HK1.out; have := HK2.out; have := HK3.out; have := HK4.out; have := HJ24.out; omega
                              case rel => exact ⟨(x6_4), (x7_4), (wrap64 (x9_4 + 1)), (by first | rfl | (simp; done) | (simp [*]; done)), (by first | rfl | (simp; done) | (simp [*]; done)), H', ⟨by have := HK1.out; have := HK2.out; have := HK3.out; have := HK4.out; have := HJ24.out; omega⟩, ⟨by (try simp only [hl6_2]); (try simp only [hl6_3]); (try simp only [hl6_4]); (with_reducible repeat (first | apply Kd.R_alloc | apply Kd.R_drewN | apply Kd.R_drew)); exact HO_3.out⟩, ⟨by (try simp only [hl6_2]); (try simp only [hl6_3]); (try simp only [hl6_4]); (with_reducible repeat (first | apply Kd.S_alloc | apply Kd.S_drewN | apply Kd.S_drew)); exact HO_4.out⟩, ⟨by (try simp only [hl6_2]); (try simp only [hl6_3]); (try simp only [hl6_4]); (with_reducible repeat (first | apply Kd.R_alloc | apply Kd.R_drewN | apply Kd.R_drew)); exact HO_6.out⟩, ⟨by repeat (first | (with_reducible first | exact HB.out | apply below_alloc | apply pw_below_drewN | apply below_drew1) | exact HB.out)⟩⟩
                             ·replace c37 := Bool.eq_false_iff.mpr c37
                              subst c37
                              have H1 : (spec_l02Parts.l3 kj24 l0 x3_1 x4_1 x5_1 (x6_4.set (x9_4 : Int).toNat true) true x8_3 (wrap64 (x9_4 + 1))) = some r := by rw [if_neg (show ¬ (false = true) by decide)] at H; exact H
                              clear H
                              have H := H1
                              clear H1
                              obtain ⟨y1721016, hy1721016⟩ : ∃ y_ : List Bool, y_ = (x6_4.set (x9_4 : Int).toNat true) := ⟨_, rfl⟩
                              replace H : (spec_l02Parts.l3 kj24 l0 x3_1 x4_1 x5_1 y1721016 true x8_3 (wrap64 (x9_4 + 1))) = some r := by first | (rw [hy1721016]; with_reducible exact H) | (have H2_ := (Option.bind_some _ _).symm.trans H; rw [hy1721016]; with_reducible exact H2_) | (have H2_ := (Option.bind_some _ _).symm.trans H; with_reducible exact H2_) | with_reducible exact H | (rw [hy1721016]; exact H) | exact H
                              have Ny1721016 := Aside0.mk hy1721016
                              clear hy1721016
                              have H' := Aside0.mk H
                              clear H
                              have p1721013 : 0 ≤ (x8_3 : Int) := of_decide_eq_true (by first | (with_reducible assumption) | assumption)
                              have q1721013 : x8_3 < (l0.length : Int) := of_decide_eq_true (by first | (with_reducible assumption) | assumption)
                              obtain ⟨ad1721013, A1721013_0, c1721013_0, e1721013, hx1721013_0, hl1721013_0, hi1721013_0⟩ := at_L1 HR0.out x8_3 p1721013 q1721013
                              cases e1721013
                              replace hx1721013_0 := (HB.out.cell (World.block_lt_of_cell? w _ hx1721013_0)).trans hx1721013_0
                              have HR1721013_0 := Aside0.mk hi1721013_0
                              have HC1721013_0 := Aside0.mk hl1721013_0
                              clear hi1721013_0 hl1721013_0
                              replace p1721013 := eq_true p1721013
                              replace q1721013 := eq_true q1721013
                              have p1721014 : 0 ≤ (x9_4 : Int) := of_decide_eq_true (by first | (with_reducible assumption) | assumption)
                              have q1721014 : x9_4 < ((rd_L1 l0 x8_3).length : Int) := of_decide_eq_true (by first | (with_reducible assumption) | assumption)
                              obtain ⟨ad1721014, e1721014, hx1721014_0⟩ := Kd.at_int HR1721013_0.out x9_4 p1721014 q1721014
                              cases e1721014
                              replace hx1721014_0 := (HB.out.cell (World.block_lt_of_cell? w _ hx1721014_0)).trans hx1721014_0
                              replace p1721014 := eq_true p1721014
                              replace q1721014 := eq_true q1721014
                              have p1721015 : 0 ≤ (x9_4 : Int) := of_decide_eq_true (by first | (with_reducible assumption) | assumption)
                              have q1721015 : x9_4 < (x6_4.length : Int) := of_decide_eq_true (by first | (with_reducible assumption) | assumption)
                              obtain ⟨ad1721015, e1721015, hx1721015_0⟩ := Kd.at_bool (Kd.R_reads' HO_6.out).2.2 x9_4 p1721015 q1721015
                              (try rw [← Nbq11.out] at hx1721015_0)
                              (try rw [← Nbq36.out] at hx1721015_0)
                              obtain rfl : (⟨go17, 0, none⟩ : Addr) = ad1721015 := (by injection e1721015)
                              (first | simp only [add_plain] at hx1721015_0 | simp only [add_at] at hx1721015_0 | simp only [Addr.add, Nat.zero_add] at hx1721015_0 | skip)
                              replace p1721015 := eq_true p1721015
                              replace q1721015 := eq_true q1721015
                              have p38 : 0 ≤ (x9_4 : Int) := of_decide_eq_true (by first | (with_reducible assumption) | assumption)
                              have q38 : (x9_4 : Int) < ((x6_4.length : Int) : Int) := of_decide_eq_true (by first | (with_reducible assumption) | assumption)
                              obtain ⟨hx38_0, hf38_0⟩ := Kd.R_celln false HO_6.out (x9_4 : Int) p38 q38
                              replace p38 := eq_true p38
                              replace q38 := eq_true q38
                              have HP39 := Kd.R_putg HO_6.out (x9_4 : Int) true
                              go_wp2_with (first | ((with_reducible refine gate_store (t := 4) (p := 68) rfl ?_); refine store_event (t := 4) (p := 68) (v := ?vo_w40) (w1 := (wc.setCell ⟨go17, (x9_4 : Int).toNat, none⟩ (.bool true))) ?hg ?ho ?hn ?hr ?_; (case ho => rfl); (case hg => rfl); (case hn => rfl); (case hr => first | (go_simp; done) | (go_simp; rfl)); intro w40 hw; have hg : wc.grownBy w40 (some go17) := (by rw [hw]; exact HP39.2); have hp_ : Kd.R Kd.bool 4 w40 w.heap.size (fun k_ => some k_ ≠ (.slice (some ad1721007) x3_1.length co18 : Value).ownBlock) (.slice (some ⟨go17, 0, none⟩) x6_4.length co17) y1721016 := (by rw [hw, Ny1721016.out]; exact HP39.1); clear HP39; have n0_ := Aside0.mk (Kd.R_after (v := (.slice (some ⟨go17, 0, none⟩) x6_4.length co17)) (v1 := (.slice (some ⟨go17, 0, none⟩) x6_4.length co17)) (ok := (fun _ => True)) (by (with_reducible repeat (first | apply Kd.R_alloc | apply Kd.R_drewN | apply Kd.R_drew)); exact Kd.R_mono HO_3.out (fun _ hk => ⟨trivial, hk⟩)) hg (.inl rfl)); have n1_ := Aside0.mk (Kd.S_over' (v := (.slice (some ⟨go17, 0, none⟩) x6_4.length co17)) (by (with_reducible repeat (first | apply Kd.S_alloc | apply Kd.S_drewN | apply Kd.S_drew)); exact HO_4.out) (Kd.R_typed HO_6.out) (by decide) hg); have n2_ := Aside0.mk (hp_); have n3_ := Aside0.mk ((by rw [hw]; exact below_set (HB.out) GB17.out : Below w.heap.size w w40)); clear HO_3; clear HO_4; clear HO_6; clear HB; have HO_3 := n0_; have HO_4 := n1_; have HO_6 := n2_; have HB := n3_; clear n0_ n1_ n2_ n3_; clear hg hw hp_))
                              (try simp only [← hl6_4])
                              go_roundg kj24
                              case measure => have := HK1.out; have := HK2.out; have := HK3.out; have := HK4.out; have := HJ24.out; omega
                              case rel => exact ⟨(y1721016), (true), (wrap64 (x9_4 + 1)), (by first | rfl | (simp; done) | (simp [*]; done)), (by first | rfl | (simp; done) | (simp [*]; done)), H', ⟨by have := HK1.out; have := HK2.out; have := HK3.out; have := HK4.out; have := HJ24.out; omega⟩, ⟨by (try simp only [hl6_2]); (try simp only [hl6_3]); (try simp only [hl6_4]); (with_reducible repeat (first | apply Kd.R_alloc | apply Kd.R_drewN | apply Kd.R_drew)); exact Kd.R_mono HO_3.out (fun _ hk => hk.2)⟩, ⟨by (try simp only [hl6_2]); (try simp only [hl6_3]); (try simp only [hl6_4]); (with_reducible repeat (first | apply Kd.S_alloc | apply Kd.S_drewN | apply Kd.S_drew)); exact HO_4.out⟩, ⟨by (try simp only [hl6_2]); (try simp only [hl6_3]); (try simp only [hl6_4]); (with_reducible repeat (first | apply Kd.R_alloc | apply Kd.R_drewN | apply Kd.R_drew)); exact HO_6.out⟩, ⟨by repeat (first | (with_reducible first | exact HB.out | apply below_alloc | apply pw_below_drewN | apply below_drew1) | exact HB.out)⟩⟩
                            ·rw [if_neg c35] at H
                             exact absurd H (by simp)
                           ·rw [if_neg c34] at H
                            have c34b0 : ((rd (rd_L1 l0 x8_3) x9_4) == 1) = false := beq_eq_false_iff_ne.mpr c34
                            have c34b1 : ((rd (rd_L1 l0 x8_3) x9_4) != 1) = true := bne_iff_ne.mpr c34
                            have H' := Aside0.mk H
                            clear H
                            have p1721013 : 0 ≤ (x8_3 : Int) := of_decide_eq_true (by first | (with_reducible assumption) | assumption)
                            have q1721013 : x8_3 < (l0.length : Int) := of_decide_eq_true (by first | (with_reducible assumption) | assumption)
                            obtain ⟨ad1721013, A1721013_0, c1721013_0, e1721013, hx1721013_0, hl1721013_0, hi1721013_0⟩ := at_L1 HR0.out x8_3 p1721013 q1721013
                            cases e1721013
                            replace hx1721013_0 := (HB.out.cell (World.block_lt_of_cell? w _ hx1721013_0)).trans hx1721013_0
                            have HR1721013_0 := Aside0.mk hi1721013_0
                            have HC1721013_0 := Aside0.mk hl1721013_0
                            clear hi1721013_0 hl1721013_0
                            replace p1721013 := eq_true p1721013
                            replace q1721013 := eq_true q1721013
                            have p1721014 : 0 ≤ (x9_4 : Int) := of_decide_eq_true (by first | (with_reducible assumption) | assumption)
                            have q1721014 : x9_4 < ((rd_L1 l0 x8_3).length : Int) := of_decide_eq_true (by first | (with_reducible assumption) | assumption)
                            obtain ⟨ad1721014, e1721014, hx1721014_0⟩ := Kd.at_int HR1721013_0.out x9_4 p1721014 q1721014
                            cases e1721014
                            replace hx1721014_0 := (HB.out.cell (World.block_lt_of_cell? w _ hx1721014_0)).trans hx1721014_0
                            replace p1721014 := eq_true p1721014
                            replace q1721014 := eq_true q1721014
                            go_wp2
                            (try simp only [← hl6_4])
                            go_roundg kj24
                            case measure => have := HK1.out; have := HK2.out; have := HK3.out; have := HK4.out; have := HJ24.out; omega
                            case rel => exact ⟨(x6_4), (x7_4), (wrap64 (x9_4 + 1)), (by first | rfl | (simp; done) | (simp [*]; done)), (by first | rfl | (simp; done) | (simp [*]; done)), H', ⟨by have := HK1.out; have := HK2.out; have := HK3.out; have := HK4.out; have := HJ24.out; omega⟩, ⟨by (try simp only [hl6_2]); (try simp only [hl6_3]); (try simp only [hl6_4]); (with_reducible repeat (first | apply Kd.R_alloc | apply Kd.R_drewN | apply Kd.R_drew)); exact HO_3.out⟩, ⟨by (try simp only [hl6_2]); (try simp only [hl6_3]); (try simp only [hl6_4]); (with_reducible repeat (first | apply Kd.S_alloc | apply Kd.S_drewN | apply Kd.S_drew)); exact HO_4.out⟩, ⟨by (try simp only [hl6_2]); (try simp only [hl6_3]); (try simp only [hl6_4]); (with_reducible repeat (first | apply Kd.R_alloc | apply Kd.R_drewN | apply Kd.R_drew)); exact HO_6.out⟩, ⟨by repeat (first | (with_reducible first | exact HB.out | apply below_alloc | apply pw_below_drewN | apply below_drew1) | exact HB.out)⟩⟩
                          ·rw [if_neg c33] at H
                           exact absurd H (by simp)
                         ·rw [if_neg c32] at H
                          exact absurd H (by simp)
                        ·rw [if_neg c31] at H
                         exact absurd H (by simp)
                       ·rw [if_neg c30] at H
                        exact absurd H (by simp)
                      ·replace c29 := Bool.eq_false_iff.mpr c29
                       subst c29
                       have H1 : (spec_l02Parts.l2 kj24 l0 x3_1 x4_1 x5_1 x6_4 x7_4 (wrap64 (x8_3 + 1))) = some r := by rw [if_neg (show ¬ (false = true) by decide)] at H; exact H
                       clear H
                       have H := H1
                       clear H1
                       have H' := Aside0.mk H
                       clear H
                       go_wp2
                       (try simp only [← hl6_3, ← hl6_4])
                       go_roundg kj24
                       case measure => have := HK1.out; have := HK2.out; have := HK3.out; have := HK4.out; have := HJ24.out; omega
                       case rel => exact ⟨(x6_4), (x7_4), (wrap64 (x8_3 + 1)), (by first | rfl | (simp; done) | (simp [*]; done)), (by first | rfl | (simp; done) | (simp [*]; done)), H', ⟨by have := HK1.out; have := HK2.out; have := HK3.out; have := HK4.out; have := HJ24.out; omega⟩, ⟨by (try simp only [hl6_2]); (try simp only [hl6_3]); (try simp only [hl6_4]); (with_reducible repeat (first | apply Kd.R_alloc | apply Kd.R_drewN | apply Kd.R_drew)); exact HO_3.out⟩, ⟨by (try simp only [hl6_2]); (try simp only [hl6_3]); (try simp only [hl6_4]); (with_reducible repeat (first | apply Kd.S_alloc | apply Kd.S_drewN | apply Kd.S_drew)); exact HO_4.out⟩, ⟨by (try simp only [hl6_2]); (try simp only [hl6_3]); (try simp only [hl6_4]); (with_reducible repeat (first | apply Kd.R_alloc | apply Kd.R_drewN | apply Kd.R_drew)); exact HO_6.out⟩, ⟨by repeat (first | (with_reducible first | exact HB.out | apply below_alloc | apply pw_below_drewN | apply below_drew1) | exact HB.out)⟩⟩
                 ·rw [if_neg c24] at H
                  have c24b0 : decide (x8_3 < (l0.length : Int)) = false := decide_eq_false c24
                  clear c24
                  have H' := Aside0.mk H
                  clear H
                  go_wp2
                  (try simp only [← hl6_2, ← hl6_3])
                  (try simp only [show (⟨go49, x5_1.toNat, none⟩ : Addr) = (⟨go49, 0, none⟩ : Addr).add x5_1.toNat from (add_plain _ _).symm])
                  go_roundg k3
                  case measure => have := HK1.out; have := HK2.out; have := HK3.out; omega
                  case rel => exact ⟨(x6_3), (x7_3), (by first | rfl | (simp; done) | (simp [*]; done)), H', ⟨by have := HK1.out; have := HK2.out; have := HK3.out; omega⟩, ⟨by (try simp only [hl6_2]); (try simp only [hl6_3]); (with_reducible repeat (first | apply Kd.R_alloc | apply Kd.R_drewN | apply Kd.R_drew)); exact HO_3.out⟩, ⟨by (try simp only [hl6_2]); (try simp only [hl6_3]); (with_reducible repeat (first | apply Kd.S_alloc | apply Kd.S_drewN | apply Kd.S_drew)); exact HO_4.out⟩, ⟨by (try simp only [hl6_2]); (try simp only [hl6_3]); (with_reducible repeat (first | apply Kd.R_alloc | apply Kd.R_drewN | apply Kd.R_drew)); exact HO_6.out⟩, ⟨by repeat (first | (with_reducible first | exact HB.out | apply below_alloc | apply pw_below_drewN | apply below_drew1) | exact HB.out)⟩⟩
              ·replace c23 := Bool.eq_false_iff.mpr c23
               subst c23
               have H1 : (spec_l02Parts.l4 k2 l0 x3_1 x4_1 x5_1 x6_2 (([] : List Int)) 0) = some r := by rw [if_neg (show ¬ (false = true) by decide)] at H; exact H
               clear H
               have H := H1
               clear H1
               obtain ⟨y1721017, hy1721017⟩ : ∃ y_ : List Int, y_ = (([] : List Int)) := ⟨_, rfl⟩
               replace H : (spec_l02Parts.l4 k2 l0 x3_1 x4_1 x5_1 x6_2 y1721017 0) = some r := by first | (rw [hy1721017]; with_reducible exact H) | (have H2_ := (Option.bind_some _ _).symm.trans H; rw [hy1721017]; with_reducible exact H2_) | (have H2_ := (Option.bind_some _ _).symm.trans H; with_reducible exact H2_) | with_reducible exact H | (rw [hy1721017]; exact H) | exact H
               have Ny1721017 := Aside0.mk hy1721017
               clear hy1721017
               have H' := Aside0.mk H
               clear H
               go_wp2_with (first | ((with_reducible refine gate_dst (N := 69) rfl ?_); refine Kd.R_lit (Kd.int .i64) _ 2 ?hg (N := 69) ?hd (xs := ([] : List Int)) (inner := []) (ok := fun _ => True) (okp := fun _ => True) ?hr ?hp (fun _ hk => hk) trivial (Below.refl _ _) (Nat.le_refl _) (by simp) ?_; (case hd => rfl); (case hg => rfl); (case hr => first | (go_simp; done) | (go_simp; rfl)); (case hp => exact (Reps.none _ _)); intro v1721018 w41 ho42 hb hg_ hnew_; clear hg_ hnew_; (first | rw [← Ny1721017.out] at ho42 | (simp only [Int.reduceToNat] at ho42; rw [← Ny1721017.out] at ho42)); have n0_ := Aside0.mk (Kd.R_below (by (with_reducible repeat (first | apply Kd.R_alloc | apply Kd.R_drewN | apply Kd.R_drew)); exact HO_3.out) hb); have n1_ := Aside0.mk (Kd.S_elder' (by (with_reducible repeat (first | apply Kd.S_alloc | apply Kd.S_drewN | apply Kd.S_drew)); exact HO_4.out) (Kd.R_base ho42) hb); have n2_ := Aside0.mk (Kd.R_below (by (with_reducible repeat (first | apply Kd.R_alloc | apply Kd.R_drewN | apply Kd.R_drew)); exact HO_6.out) hb); have n3_ := Aside0.mk (Kd.R_lower ho42 (below_size (by repeat (first | (with_reducible first | exact HB.out | apply below_alloc | apply pw_below_drewN | apply below_drew1) | exact HB.out)))); have n4_ := Aside0.mk (below_step (by repeat (first | (with_reducible first | exact HB.out | apply below_alloc | apply pw_below_drewN | apply below_drew1) | exact HB.out)) hb); clear HO_3; clear HO_4; clear HO_6; clear HB; have HO_3 := n0_; have HO_4 := n1_; have HO_6 := n2_; have HO1721019 := n3_; have HB := n4_; clear n0_ n1_ n2_ n3_ n4_; clear hb ho42))
               go_loopg [10, 11] k2 (fun kq v10 v11 w' => ∃ (x3_3 : List Bool) (x10_3 : List Int) (x11_3 : Int), v11 = .int .i64 x11_3 ∧ Aside0 (spec_l02Parts.l4 kq l0 x3_3 x4_1 x5_1 x6_2 x10_3 x11_3 = some r) ∧ Aside0 (kq ≤ k2) ∧ Aside0 (Kd.R Kd.bool 4 w' w.heap.size (fun k_ => some k_ ≠ ((.slice (some ⟨go17, 0, none⟩) x6_2.length co17) : Value).ownBlock) (.slice (some ad1721007) x3_1.length co18) x3_3) ∧ Aside0 (Kd.S (Kd.slice 2 (Kd.int .i64)) 22 w' w.heap.size (fun k_ => some k_ ≠ (v10 : Value).ownBlock) u4 x4_1) ∧ Aside0 (Kd.R Kd.bool 4 w' w.heap.size (fun k_ => some k_ ≠ ((.slice (some ad1721007) x3_1.length co18) : Value).ownBlock) (.slice (some ⟨go17, 0, none⟩) x6_2.length co17) x6_2) ∧ Aside0 (Kd.R (Kd.int .i64) 2 w' w.heap.size (fun _ => True) v10 x10_3) ∧ Aside0 (Below w.heap.size w w'))
               case atStart => exact ⟨(x3_1), (y1721017), (0), (by first | rfl | (simp; done) | (simp [*]; done)), H', ⟨Nat.le_refl _⟩, ⟨by (try simp only [hl6_2]); (with_reducible repeat (first | apply Kd.R_alloc | apply Kd.R_drewN | apply Kd.R_drew)); exact HO_3.out⟩, ⟨by (try simp only [hl6_2]); (with_reducible repeat (first | apply Kd.S_alloc | apply Kd.S_drewN | apply Kd.S_drew)); exact Kd.S_mono HO_4.out (fun _ hk => hk.2)⟩, ⟨by (try simp only [hl6_2]); (with_reducible repeat (first | apply Kd.R_alloc | apply Kd.R_drewN | apply Kd.R_drew)); exact HO_6.out⟩, ⟨by (try simp only [hl6_2]); (with_reducible repeat (first | apply Kd.R_alloc | apply Kd.R_drewN | apply Kd.R_drew)); exact HO1721019.out⟩, ⟨by repeat (first | (with_reducible first | exact HB.out | apply below_alloc | apply pw_below_drewN | apply below_drew1) | exact HB.out)⟩⟩
               case round =>
                clear H'
                try clear c1
                try clear p1
                try clear q1
                try clear hx1
                try clear hf1
                try clear c2
                try clear c2b0
                try clear c2b1
                try clear p2
                try clear c3
                try clear c3b0
                try clear c3b1
                try clear p3
                try clear q3
                try clear hx3
                try clear hf3
                try clear p6
                try clear c8
                try clear c8b0
                try clear c9
                try clear c9b0
                try clear c10
                try clear c10b0
                try clear q11
                try clear c12
                try clear c14
                try clear c14b0
                try clear c14b1
                try clear c15
                try clear c15b0
                try clear c15b1
                try clear c16
                try clear c16b0
                try clear c17
                try clear p17
                try clear q17
                try clear hx17
                try clear hf17
                try clear c23
                try clear c24
                try clear c24b0
                try clear c26
                try clear c26b0
                try clear c27
                try clear c27b0
                try clear c28
                try clear c28b0
                try clear c29
                try clear c30
                try clear c30b0
                try clear c31
                try clear c31b0
                try clear c32
                try clear c32b0
                try clear c33
                try clear c33b0
                try clear c34
                try clear c34b0
                try clear c34b1
                try clear c35
                try clear c35b0
                try clear q36
                try clear c37
                try clear p38
                try clear q38
                try clear hx38
                try clear hf38
                try clear hx1721007_0
                try clear hx1721012_0
                try clear hx1721013_0
                try clear hx1721014_0
                try clear hx1721015_0
                try clear hx17_0
                try clear hx38_0
                try clear p1
                try clear p17
                try clear p1721007
                try clear p1721012
                try clear p1721013
                try clear p1721014
                try clear p1721015
                try clear p2
                try clear p38
                try clear p6
                try clear q1
                try clear q11
                try clear q17
                try clear q1721007
                try clear q1721012
                try clear q1721013
                try clear q1721014
                try clear q1721015
                try clear q38
                obtain ⟨x3_3, x10_3, x11_3, rfl, HA, HK3, HO_3, HO_4, HO_6, HO_10, HB⟩ := hrel
                have hl3_3 := (Kd.R_reads' HO_3.out).1
                rw [hl3_3] at HO_3
                (try simp only [hl3_3])
                (try simp only [hl3_3] at HO_4)
                (try simp only [hl3_3] at HO_6)
                (try simp only [hl3_3] at HO_10)
                cases gk with
                | zero => exact absurd HA.out (by simp [spec_l02Parts.l4])
                | succ k3 =>
                 have H := HA.out
                 clear HA
                 simp only [spec_l02Parts.l4] at H
                 by_cases c43 : x11_3 < (l0.length : Int)
                 ·rw [if_pos c43] at H
                  have c43b0 : decide (x11_3 < (l0.length : Int)) = true := decide_eq_true c43
                  clear c43
                  by_cases c44 : 0 ≤ x11_3
                  ·rw [if_pos c44] at H
                   have c44b0 : decide (0 ≤ x11_3) = true := decide_eq_true c44
                   clear c44
                   by_cases c45 : x11_3 < (x6_2.length : Int)
                   ·rw [if_pos c45] at H
                    have c45b0 : decide (x11_3 < (x6_2.length : Int)) = true := decide_eq_true c45
                    clear c45
                    obtain ⟨bq46, hbq46⟩ : ∃ b_ : Bool, b_ = (rdOf false x6_2 x11_3) := ⟨_, rfl⟩
                    replace H : (if bq46 = true then (if x11_3 < (x3_3.length : Int) then (if x10_3.length < 17592186044416 then (spec_l02Parts.l4 k3 l0 (x3_3.set (x11_3 : Int).toNat true) x4_1 x5_1 x6_2 (x10_3 ++ [x11_3]) (wrap64 (x11_3 + 1))) else (none)) else (none)) else (spec_l02Parts.l4 k3 l0 x3_3 x4_1 x5_1 x6_2 x10_3 (wrap64 (x11_3 + 1)))) = some r := by rw [← hbq46] at H; exact H
                    have Nbq46 := Aside0.mk hbq46
                    clear hbq46
                    by_cases c47 : bq46 = true
                    ·subst c47
                     have H1 : (if x11_3 < (x3_3.length : Int) then (if x10_3.length < 17592186044416 then (spec_l02Parts.l4 k3 l0 (x3_3.set (x11_3 : Int).toNat true) x4_1 x5_1 x6_2 (x10_3 ++ [x11_3]) (wrap64 (x11_3 + 1))) else (none)) else (none)) = some r := by rw [if_pos rfl] at H; exact H
                     clear H
                     have H := H1
                     clear H1
                     by_cases c48 : x11_3 < (x3_3.length : Int)
                     ·rw [if_pos c48] at H
                      have c48b0 : decide (x11_3 < (x3_3.length : Int)) = true := decide_eq_true c48
                      clear c48
                      obtain ⟨y1721021, hy1721021⟩ : ∃ y_ : List Bool, y_ = (x3_3.set (x11_3 : Int).toNat true) := ⟨_, rfl⟩
                      replace H : (if x10_3.length < 17592186044416 then (spec_l02Parts.l4 k3 l0 y1721021 x4_1 x5_1 x6_2 (x10_3 ++ [x11_3]) (wrap64 (x11_3 + 1))) else (none)) = some r := by first | (rw [hy1721021]; with_reducible exact H) | (have H2_ := (Option.bind_some _ _).symm.trans H; rw [hy1721021]; with_reducible exact H2_) | (have H2_ := (Option.bind_some _ _).symm.trans H; with_reducible exact H2_) | with_reducible exact H | (rw [hy1721021]; exact H) | exact H
                      have Ny1721021 := Aside0.mk hy1721021
                      clear hy1721021
                      by_cases c50 : x10_3.length < 17592186044416
                      ·rw [if_pos c50] at H
                       have LMc50 := Aside0.mk c50
                       clear c50
                       obtain ⟨y1721022, hy1721022⟩ : ∃ y_ : List Int, y_ = (x10_3 ++ [x11_3]) := ⟨_, rfl⟩
                       replace H : (spec_l02Parts.l4 k3 l0 y1721021 x4_1 x5_1 x6_2 y1721022 (wrap64 (x11_3 + 1))) = some r := by first | (rw [hy1721022]; with_reducible exact H) | (have H2_ := (Option.bind_some _ _).symm.trans H; rw [hy1721022]; with_reducible exact H2_) | (have H2_ := (Option.bind_some _ _).symm.trans H; with_reducible exact H2_) | with_reducible exact H | (rw [hy1721022]; exact H) | exact H
                       have Ny1721022 := Aside0.mk hy1721022
                       clear hy1721022
                       have H' := Aside0.mk H
                       clear H
                       have p1721020 : 0 ≤ (x11_3 : Int) := of_decide_eq_true (by first | (with_reducible assumption) | assumption)
                       have q1721020 : x11_3 < (x6_2.length : Int) := of_decide_eq_true (by first | (with_reducible assumption) | assumption)
                       obtain ⟨ad1721020, e1721020, hx1721020_0⟩ := Kd.at_bool (Kd.R_reads' HO_6.out).2.2 x11_3 p1721020 q1721020
                       (try rw [← Nbq11.out] at hx1721020_0)
                       (try rw [← Nbq46.out] at hx1721020_0)
                       obtain rfl : (⟨go17, 0, none⟩ : Addr) = ad1721020 := (by injection e1721020)
                       (first | simp only [add_plain] at hx1721020_0 | simp only [add_at] at hx1721020_0 | simp only [Addr.add, Nat.zero_add] at hx1721020_0 | skip)
                       replace p1721020 := eq_true p1721020
                       replace q1721020 := eq_true q1721020
                       have p49 : 0 ≤ (x11_3 : Int) := of_decide_eq_true (by first | (with_reducible assumption) | assumption)
                       have q49 : (x11_3 : Int) < ((x3_3.length : Int) : Int) := of_decide_eq_true (by first | (with_reducible assumption) | assumption)
                       obtain ⟨go49, co49, eo49, gb49, gl49, cl49, HG49⟩ := Kd.R_form HO_3.out (by omega)
                       (first | cases eo49 | (injection eo49 with ea_ en_ ec_; (first | subst ea_ | (injection ea_ with ea_; subst ea_)); subst ec_; clear en_))
                       have GB49 := Aside0.mk gb49
                       have GG49 := Aside0.mk HG49
                       clear gb49 gl49 HG49
                       (first | simp only [add_plain] at hx1721007_0 | skip)
                       obtain ⟨hx49_0, hf49_0⟩ := Kd.R_celln false HO_3.out (x11_3 : Int) p49 q49
                       replace p49 := eq_true p49
                       replace q49 := eq_true q49
                       have HP51 := Kd.R_putg HO_3.out (x11_3 : Int) true
                       go_wp2_with (first | ((with_reducible refine gate_store (t := 4) (p := 82) rfl ?_); refine store_event (t := 4) (p := 82) (v := ?vo_w52) (w1 := (wr.setCell ⟨go49, (x11_3 : Int).toNat, none⟩ (.bool true))) ?hg ?ho ?hn ?hr ?_; (case ho => rfl); (case hg => rfl); (case hn => rfl); (case hr => first | (go_simp; done) | (go_simp; rfl)); intro w52 hw; have hg : wr.grownBy w52 (some go49) := (by rw [hw]; exact HP51.2); have hp_ : Kd.R Kd.bool 4 w52 w.heap.size (fun k_ => some k_ ≠ (.slice (some ⟨go17, 0, none⟩) x6_2.length co17 : Value).ownBlock) (.slice (some ⟨go49, 0, none⟩) x3_3.length co18) y1721021 := (by rw [hw, Ny1721021.out]; exact HP51.1); clear HP51; have n0_ := Aside0.mk (hp_); have n1_ := Aside0.mk (Kd.S_over' (v := (.slice (some ⟨go49, 0, none⟩) x3_3.length co18)) (by (with_reducible repeat (first | apply Kd.S_alloc | apply Kd.S_drewN | apply Kd.S_drew)); exact HO_4.out) (Kd.R_typed HO_3.out) (by decide) hg); have n2_ := Aside0.mk (Kd.R_after (v := (.slice (some ⟨go49, 0, none⟩) x3_3.length co18)) (v1 := (.slice (some ⟨go49, 0, none⟩) x3_3.length co18)) (ok := (fun _ => True)) (by (with_reducible repeat (first | apply Kd.R_alloc | apply Kd.R_drewN | apply Kd.R_drew)); exact Kd.R_mono HO_6.out (fun _ hk => ⟨trivial, hk⟩)) hg (.inl rfl)); have n3_ := Aside0.mk (Kd.R_over' (v := (.slice (some ⟨go49, 0, none⟩) x3_3.length co18)) (by (with_reducible repeat (first | apply Kd.R_alloc | apply Kd.R_drewN | apply Kd.R_drew)); exact HO_10.out) (Kd.R_typed HO_3.out) (by decide) hg); have n4_ := Aside0.mk ((by rw [hw]; exact below_set (HB.out) GB49.out : Below w.heap.size w w52)); clear HO_3; clear HO_4; clear HO_6; clear HO_10; clear HB; have HO_3 := n0_; have HO_4 := n1_; have HO_6 := n2_; have HO_10 := n3_; have HB := n4_; clear n0_ n1_ n2_ n3_ n4_; clear hg hw hp_) | ((with_reducible refine gate_builtin (b := .append) (xs := #[.tmp 83, .tmp 85]) rfl ?_); at_builtin; refine Kd.R_append (Kd.int .i64) (w0 := w) w.heap.size rfl (.tmp 83) (.tmp 85) 22 2 (.int .i64 0) 8 rfl Try.underlying22 info2 rfl (by decide) (by omega) u10 x10_3 x11_3 [.int .i64 x11_3] (fun _ => True) (fun _ => False) rfl rfl ?aP (fun _ hk => hk.elim) ?aF ?aO ?aB ?aS ?aL ?_; (case aP => exact rfl); (case aB => exact (by repeat (first | (with_reducible first | exact HB.out | apply below_alloc | apply pw_below_drewN | apply below_drew1) | exact HB.out))); (case aF => exact (fun _ _ => trivial)); (case aO => exact (by (with_reducible repeat (first | apply Kd.R_alloc | apply Kd.R_drewN | apply Kd.R_drew)); exact HO_10.out)); (case aS => exact (below_size (by repeat (first | (with_reducible first | exact HB.out | apply below_alloc | apply pw_below_drewN | apply below_drew1) | exact HB.out)))); (case aL => have := LMc50.out; omega); intro v1721023 w53 ho hb hg hat; rw [← Ny1721022.out] at ho; have n0_ := Aside0.mk (Kd.R_over' (by (with_reducible repeat (first | apply Kd.R_alloc | apply Kd.R_drewN | apply Kd.R_drew)); exact HO_3.out) (Kd.R_typed (by (with_reducible repeat (first | apply Kd.R_alloc | apply Kd.R_drewN | apply Kd.R_drew)); exact HO_10.out)) (by decide) hg); have n1_ := Aside0.mk (Kd.S_after (ok := (fun _ => True)) (by (with_reducible repeat (first | apply Kd.S_alloc | apply Kd.S_drewN | apply Kd.S_drew)); exact Kd.S_mono HO_4.out (fun _ hk => ⟨trivial, hk⟩)) hg hat); have n2_ := Aside0.mk (Kd.R_over' (by (with_reducible repeat (first | apply Kd.R_alloc | apply Kd.R_drewN | apply Kd.R_drew)); exact HO_6.out) (Kd.R_typed (by (with_reducible repeat (first | apply Kd.R_alloc | apply Kd.R_drewN | apply Kd.R_drew)); exact HO_10.out)) (by decide) hg); have n3_ := Aside0.mk (hb); have n4_ := Aside0.mk (ho); clear HO_3; clear HO_4; clear HO_6; clear HB; clear HO_10; have HO_3 := n0_; have HO_4 := n1_; have HO_6 := n2_; have HB := n3_; have HO1721024 := n4_; clear n0_ n1_ n2_ n3_ n4_; clear ho hb hg hat))
                       (try simp only [← hl3_3])
                       (try simp only [show (⟨go49, x5_1.toNat, none⟩ : Addr) = (⟨go49, 0, none⟩ : Addr).add x5_1.toNat from (add_plain _ _).symm])
                       go_roundg k3
                       case measure => have := HK1.out; have := HK2.out; have := HK3.out; omega
                       case rel => exact ⟨(y1721021), (y1721022), (wrap64 (x11_3 + 1)), (by first | rfl | (simp; done) | (simp [*]; done)), H', ⟨by have := HK1.out; have := HK2.out; have := HK3.out; omega⟩, ⟨by (try simp only [hl6_2]); (try simp only [hl3_3]); (with_reducible repeat (first | apply Kd.R_alloc | apply Kd.R_drewN | apply Kd.R_drew)); exact HO_3.out⟩, ⟨by (try simp only [hl6_2]); (try simp only [hl3_3]); (with_reducible repeat (first | apply Kd.S_alloc | apply Kd.S_drewN | apply Kd.S_drew)); exact Kd.S_mono HO_4.out (fun _ hk => hk.2)⟩, ⟨by (try simp only [hl6_2]); (try simp only [hl3_3]); (with_reducible repeat (first | apply Kd.R_alloc | apply Kd.R_drewN | apply Kd.R_drew)); exact Kd.R_mono HO_6.out (fun _ hk => hk.2)⟩, ⟨by (try simp only [hl6_2]); (try simp only [hl3_3]); (with_reducible repeat (first | apply Kd.R_alloc | apply Kd.R_drewN | apply Kd.R_drew)); exact HO1721024.out⟩, ⟨by repeat (first | (with_reducible first | exact HB.out | apply below_alloc | apply pw_below_drewN | apply below_drew1) | exact HB.out)⟩⟩
                      ·rw [if_neg c50] at H
                       exact absurd H (by simp)
                     ·rw [if_neg c48] at H
                      exact absurd H (by simp)
                    ·replace c47 := Bool.eq_false_iff.mpr c47
                     subst c47
                     have H1 : (spec_l02Parts.l4 k3 l0 x3_3 x4_1 x5_1 x6_2 x10_3 (wrap64 (x11_3 + 1))) = some r := by rw [if_neg (show ¬ (false = true) by decide)] at H; exact H
                     clear H
                     have H := H1
                     clear H1
                     have H' := Aside0.mk H
                     clear H
                     have p1721020 : 0 ≤ (x11_3 : Int) := of_decide_eq_true (by first | (with_reducible assumption) | assumption)
                     have q1721020 : x11_3 < (x6_2.length : Int) := of_decide_eq_true (by first | (with_reducible assumption) | assumption)
                     obtain ⟨ad1721020, e1721020, hx1721020_0⟩ := Kd.at_bool (Kd.R_reads' HO_6.out).2.2 x11_3 p1721020 q1721020
                     (try rw [← Nbq11.out] at hx1721020_0)
                     (try rw [← Nbq46.out] at hx1721020_0)
                     obtain rfl : (⟨go17, 0, none⟩ : Addr) = ad1721020 := (by injection e1721020)
                     (first | simp only [add_plain] at hx1721020_0 | simp only [add_at] at hx1721020_0 | simp only [Addr.add, Nat.zero_add] at hx1721020_0 | skip)
                     replace p1721020 := eq_true p1721020
                     replace q1721020 := eq_true q1721020
                     go_wp2
                     (try simp only [← hl3_3])
                     (try simp only [show (⟨go49, x5_1.toNat, none⟩ : Addr) = (⟨go49, 0, none⟩ : Addr).add x5_1.toNat from (add_plain _ _).symm])
                     go_roundg k3
                     case measure => have := HK1.out; have := HK2.out; have := HK3.out; omega
                     case rel => exact ⟨(x3_3), (x10_3), (wrap64 (x11_3 + 1)), (by first | rfl | (simp; done) | (simp [*]; done)), H', ⟨by have := HK1.out; have := HK2.out; have := HK3.out; omega⟩, ⟨by (try simp only [hl6_2]); (try simp only [hl3_3]); (with_reducible repeat (first | apply Kd.R_alloc | apply Kd.R_drewN | apply Kd.R_drew)); exact HO_3.out⟩, ⟨by (try simp only [hl6_2]); (try simp only [hl3_3]); (with_reducible repeat (first | apply Kd.S_alloc | apply Kd.S_drewN | apply Kd.S_drew)); exact HO_4.out⟩, ⟨by (try simp only [hl6_2]); (try simp only [hl3_3]); (with_reducible repeat (first | apply Kd.R_alloc | apply Kd.R_drewN | apply Kd.R_drew)); exact HO_6.out⟩, ⟨by (try simp only [hl6_2]); (try simp only [hl3_3]); (with_reducible repeat (first | apply Kd.R_alloc | apply Kd.R_drewN | apply Kd.R_drew)); exact HO_10.out⟩, ⟨by repeat (first | (with_reducible first | exact HB.out | apply below_alloc | apply pw_below_drewN | apply below_drew1) | exact HB.out)⟩⟩
                   ·rw [if_neg c45] at H
                    exact absurd H (by simp)
                  ·rw [if_neg c44] at H
                   exact absurd H (by simp)
                 ·rw [if_neg c43] at H
                  have c43b0 : decide (x11_3 < (l0.length : Int)) = false := decide_eq_false c43
                  clear c43
                  by_cases c54 : x4_1.length < 5864062014805
                  ·rw [if_pos c54] at H
                   have LMc54 := Aside0.mk c54
                   clear c54
                   obtain ⟨y1721025, hy1721025⟩ : ∃ y_ : List (List Int), y_ = (x4_1 ++ [x10_3]) := ⟨_, rfl⟩
                   replace H : (spec_l02Parts.l0 k3 l0 x3_3 y1721025 (wrap64 (x5_1 + 1))) = some r := by first | (rw [hy1721025]; with_reducible exact H) | (have H2_ := (Option.bind_some _ _).symm.trans H; rw [hy1721025]; with_reducible exact H2_) | (have H2_ := (Option.bind_some _ _).symm.trans H; with_reducible exact H2_) | with_reducible exact H | (rw [hy1721025]; exact H) | exact H
                   have Ny1721025 := Aside0.mk hy1721025
                   clear hy1721025
                   have H' := Aside0.mk H
                   clear H
                   obtain ⟨Ao56, co56, eo56⟩ := Kd.R_slice HO_10.out
                   subst eo56
                   go_wp2_with (first | ((with_reducible refine gate_builtin (b := .append) (xs := #[.tmp 87, .tmp 89]) rfl ?_); at_builtin; refine Kd.S_append (Kd.slice 2 (Kd.int .i64)) (w0 := w) w.heap.size rfl (.tmp 87) (.tmp 89) 23 22 (.slice none 0 0) 24 rfl Try.underlying23 info22 rfl (by decide) (by omega) u4 x4_1 x10_3 [.slice Ao56 x10_3.length co56] (fun _ => True) (fun k_ => some k_ = (.slice Ao56 x10_3.length co56 : Value).ownBlock) rfl rfl ?aP (fun k_ hk_ => ((Kd.R_mono (ok' := fun k_ => ((fun _ => True)) k_ ∧ some k_ ≠ (u4 : Value).ownBlock) (Kd.R_apart' (HO_10.out) (Kd.S_typed HO_4.out) (by decide)) (fun k_ hk => ⟨trivial, hk.2⟩))).1 k_ hk_.symm) ?aF ?aO ?aB ?aS ?aL ?_; (case aP => exact Kd.M_row (Kd.R_mono (Kd.R_tight rfl (Kd.R_mono (ok' := fun k_ => ((fun _ => True)) k_ ∧ some k_ ≠ (u4 : Value).ownBlock) (Kd.R_apart' (HO_10.out) (Kd.S_typed HO_4.out) (by decide)) (fun k_ hk => ⟨trivial, hk.2⟩))) (fun _ h_ => h_))); (case aB => exact (by repeat (first | (with_reducible first | exact HB.out | apply below_alloc | apply pw_below_drewN | apply below_drew1) | exact HB.out))); (case aF => exact (fun _ _ => trivial)); (case aO => exact (by (with_reducible repeat (first | apply Kd.S_alloc | apply Kd.S_drewN | apply Kd.S_drew)); exact Kd.S_mono HO_4.out (fun k_ hk => ⟨trivial, fun e_ => hk e_⟩))); (case aS => exact (below_size (by repeat (first | (with_reducible first | exact HB.out | apply below_alloc | apply pw_below_drewN | apply below_drew1) | exact HB.out)))); (case aL => have := LMc54.out; omega); intro v1721026 w55 ho hb hg hat; rw [← Ny1721025.out] at ho; have n0_ := Aside0.mk (Kd.R_over' (by (with_reducible repeat (first | apply Kd.R_alloc | apply Kd.R_drewN | apply Kd.R_drew)); exact HO_3.out) (Kd.S_typed (by (with_reducible repeat (first | apply Kd.S_alloc | apply Kd.S_drewN | apply Kd.S_drew)); exact HO_4.out)) (by decide) hg); have n1_ := Aside0.mk (Kd.R_over' (by (with_reducible repeat (first | apply Kd.R_alloc | apply Kd.R_drewN | apply Kd.R_drew)); exact HO_6.out) (Kd.S_typed (by (with_reducible repeat (first | apply Kd.S_alloc | apply Kd.S_drewN | apply Kd.S_drew)); exact HO_4.out)) (by decide) hg); have n2_ := Aside0.mk (hb); have n3_ := Aside0.mk (ho); clear HO_3; clear HO_6; clear HB; clear HO_4; clear HO_10; have HO_3 := n0_; have HO_6 := n1_; have HB := n2_; have HO1721027 := n3_; clear n0_ n1_ n2_ n3_; clear ho hb hg hat))
                   (try simp only [← hl6_2, ← hl3_3])
                   (try simp only [show (⟨go49, x5_1.toNat, none⟩ : Addr) = (⟨go49, 0, none⟩ : Addr).add x5_1.toNat from (add_plain _ _).symm])
                   go_roundg k3
                   case measure => have := HK1.out; have := HK2.out; have := HK3.out; omega
                   case rel => exact ⟨(x3_3), (y1721025), (wrap64 (x5_1 + 1)), (by first | rfl | (simp; done) | (simp [*]; done)), H', ⟨by have := HK1.out; have := HK2.out; have := HK3.out; omega⟩, ⟨by (try simp only [hl6_2]); (try simp only [hl3_3]); (with_reducible repeat (first | apply Kd.R_alloc | apply Kd.R_drewN | apply Kd.R_drew)); exact Kd.R_mono HO_3.out (fun _ hk => trivial)⟩, ⟨by (try simp only [hl6_2]); (try simp only [hl3_3]); (with_reducible repeat (first | apply Kd.S_alloc | apply Kd.S_drewN | apply Kd.S_drew)); exact HO1721027.out⟩, ⟨by repeat (first | (with_reducible first | exact HB.out | apply below_alloc | apply pw_below_drewN | apply below_drew1) | exact HB.out)⟩⟩
                  ·rw [if_neg c54] at H
                   exact absurd H (by simp)
           ·rw [if_neg c16] at H
            exact absurd H (by simp)
          ·rw [if_neg c15] at H
           exact absurd H (by simp)
         ·rw [if_neg c14] at H
          exact absurd H (by simp)
       ·rw [if_neg c10] at H
        exact absurd H (by simp)
      ·rw [if_neg c9] at H
       exact absurd H (by simp)
     ·rw [if_neg c8] at H
      have c8b0 : decide (x5_1 < (l0.length : Int)) = false := decide_eq_false c8
      clear c8
      obtain rfl := Option.some.inj H
      go_wp2
      go_ret
      exact ⟨_, by first | rfl | (simp [errW_none, errW_some] <;> rfl) | (simp [*, errW_none, errW_some] <;> rfl), by (with_reducible repeat (first | apply Kd.S_alloc | apply Kd.S_drewN | apply Kd.S_drew)); exact HO_4.out, by repeat (first | (with_reducible first | exact HB.out | apply below_alloc | apply pw_below_drewN | apply below_drew1) | exact HB.out)⟩
  ·rw [if_neg c3] at H
   exact absurd H (by simp)
 ·rw [if_neg c2] at H
  exact absurd H (by simp)
end Go.Proofs.Ytnlhhbnoccobmaa.F
end
section
namespace Go.Proofs.Ytnlhhbnoccobmaa.F
section
open Go.RowKit Go.Proofs.YtnlhhbnoccobmaaW.PrintWords Go.Proofs.YtnlhhbnoccobmaaW.PrintLast Go.Proofs.YtnlhhbnoccobmaaW.PrintMore
attribute [local go_sem] max2_int min2_int max_two min_two max_three min_three max_four min_four   
set_option linter.unusedVariables false
set_option linter.unusedSimpArgs false
theorem info_rowsc : (Try.prog.info? 22).map (fun i => (i.zero, i.size, i.bytes)) = some (some (.slice none 0 0), 1, 24) := by kernel_rfl
set_option maxHeartbeats 8000000 in
set_option maxRecDepth 100000 in
theorem slices_Clone_rows_int64.calls (okv : Nat → Prop) (A0 : Option Addr) (c0 : Nat) (l0 : List (List Int)) (w : World) (hr0 : Kd.F (Kd.slice 2 (Kd.int .i64)) w okv A0 l0.length l0) (hc0 : l0.length ≤ c0) (hlen : l0.length ≤ 1000000) :
    Calls Try.prog 188 #[.slice A0 l0.length c0] w fun e w' => ∃ v0_ : Value, e = .returned (v0_) ∧ Kd.N (Kd.slice 2 (Kd.int .i64)) 22 w' w.heap.size (fun k => okv k ∨ w.heap.size ≤ k) v0_ l0 ∧ Below w.heap.size w w' := by
  have HR0 := Aside0.mk hr0
  have HLL := Aside0.mk hlen
  clear hr0 hlen
  have he := fun (W : World) (a : Option Addr) (n c : Nat) => Go.run_eql_slice_nil (P := Try.prog) W 23 22 a n c Try.underlying23
  cases A0 with
  | none =>
    have hz : l0 = [] := by
      have h := Kd.F_now HR0.out
      cases l0 with
      | nil => rfl
      | cons x r => exact absurd (h.2.2 (by simp)) (by rintro ⟨ad, e, _⟩; cases e)
    subst hz
    go_enter Try.func188, Try.ntmps188
    go_wp2
    go_ret
    exact ⟨_, rfl, Kd.N_nil _ _ _ _ _, Below.refl _ _⟩
  | some ad =>
    go_enter Try.func188, Try.ntmps188
    go_wp2_with (first
      | ((with_reducible refine gate_dst (N := 5) rfl ?_); refine Kd.N_lit (Kd.slice 2 (Kd.int .i64)) (w0 := w) w.heap.size 22 ?hg (N' := 5) ?hd (xs := ([] : List (List Int))) (inner := []) (ok := fun k => okv k ∨ w.heap.size ≤ k) (okp := fun _ => False) ?hr ?hp (fun _ hk => hk.elim) (.inr (Nat.le_refl _)) (Below.refl _ _) (Nat.le_refl _) (by simp) ?_; (case hd => rfl); (case hg => rfl); (case hr => first | (go_simp; done) | (go_simp; rfl)); (case hp => exact (Reps.none _ _)); intro v1 w2 ho3 hb hg_ hnew_; have HO0 := Aside0.mk ho3; have HB0 := Aside0.mk hb; have HN0 := Aside0.mk hnew_; clear ho3 hb hg_ hnew_)
      | (at_builtin; refine Kd.N_append_rows (Kd.slice 2 (Kd.int .i64)) (w0 := w) w.heap.size rfl (.tmp 5) (.tmp 6) 23 22 (.slice none 0 0) 24 rfl Try.underlying23 info_rowsc rfl (by decide) (by omega) v1 ([] : List (List Int)) l0 (some ad) l0.length c0 (fun k => okv k ∨ w.heap.size ≤ k) (fun k => okv k ∧ k < w.heap.size) rfl rfl HO0.out (Kd.F_below (Kd.F_bound HR0.out) HB0.out) (fun k hk => ⟨.inl hk.1, fun e => by obtain ⟨b, hb, hl⟩ := HN0.out; rw [hb] at e; have := Option.some.inj e; have := hk.2; omega⟩) (fun k hk => .inr (Nat.le_trans HB0.out.size hk)) HB0.out (HB0.out.size) (by have := HLL.out; simp only [List.length_nil]; omega) ?_; intro v9 w9 ho hb hg hat; have HO9 := Aside0.mk ho; have HB9 := Aside0.mk hb; clear ho hb hg hat))
    go_ret
    exact ⟨_, rfl, HO9.out, HB9.out⟩
end
section
open Go.RowKit Go.Proofs.YtnlhhbnoccobmaaW.PrintWords Go.Proofs.YtnlhhbnoccobmaaW.PrintLast Go.Proofs.YtnlhhbnoccobmaaW.PrintMore
attribute [local go_sem] max2_int min2_int max_two min_two max_three min_three max_four min_four   
set_option linter.unusedVariables false
set_option linter.unusedSimpArgs false
set_option maxHeartbeats 4000000 in
theorem slices_Clip_int64_int64.calls (A : Option Addr) (n c : Nat) (w : World) (hc : n ≤ c) :
    Calls Try.prog 189 #[.slice A n c] w fun e w' => e = .returned (.slice A n n) ∧ w' = w := by
  go_enter Try.func189, Try.ntmps189
  go_wp2
  go_ret
  exact ⟨rfl, rfl⟩
end
section
open Go.RowKit Go.Proofs.YtnlhhbnoccobmaaW.PrintWords Go.Proofs.YtnlhhbnoccobmaaW.PrintLast Go.Proofs.YtnlhhbnoccobmaaW.PrintMore
attribute [local go_sem] max2_int min2_int max_two min_two max_three min_three max_four min_four   
set_option linter.unusedVariables false
set_option linter.unusedSimpArgs false
set_option maxHeartbeats 4000000 in
theorem slices_Clip_rows_int64.calls (A : Option Addr) (n c : Nat) (w : World) (hc : n ≤ c) :
    Calls Try.prog 190 #[.slice A n c] w fun e w' => e = .returned (.slice A n n) ∧ w' = w := by
  go_enter Try.func190, Try.ntmps190
  go_wp2
  go_ret
  exact ⟨rfl, rfl⟩
end
end Go.Proofs.Ytnlhhbnoccobmaa.F
end
section
namespace Go.Proofs.Ytnlhhbnoccobmaa.Pure
open Go.RowKit Go.Proofs.Ytnlhhbnoccobmaa.F Go.Proofs.YtnlhhbnoccobmaaW.PrintWords Go.Proofs.YtnlhhbnoccobmaaW.PrintLast
theorem wS {n : Nat} (h : n < 4611686018427387904) : wrap64 ((n : Int) + 1) = ((n + 1 : Nat) : Int) := by unfold wrap64; omega
theorem rdN (l : List Int) (n : Nat) : rd l (n : Int) = l.getD n 0 := by unfold rd; rw [Int.toNat_natCast]
theorem drop_cons {l : List Int} {n : Nat} (h : n < l.length) : l.drop n = l.getD n 0 :: l.drop (n + 1) := by
  rw [List.drop_eq_getElem_cons h, List.getD_eq_getElem?_getD, List.getElem?_eq_getElem h]; rfl
theorem take_snoc {l : List Int} {n : Nat} (h : n < l.length) : l.take (n + 1) = l.take n ++ [l.getD n 0] := by
  rw [List.take_succ_eq_append_getElem h, List.getD_eq_getElem?_getD, List.getElem?_eq_getElem h]; rfl
theorem same_l0 (a b : List Int) (hl : a.length = b.length) (hb : a.length < 4611686018427387904) : ∀ d n, n + d = a.length → Ev (fun k => spec_l01Same.l0 k a b (n : Int)) (decide (a.drop n = b.drop n)) := by
  intro d
  induction d with
  | zero =>
    intro n hn
    rw [List.drop_of_length_le (by omega), List.drop_of_length_le (by omega)]
    refine Ev.step (f := fun _ => some _) (fun k => ?_) (Ev.now _)
    simp only [spec_l01Same.l0]; rw [if_neg (by omega)]; rfl
  | succ d ih =>
    intro n hn
    rw [drop_cons (l := a) (by omega), drop_cons (l := b) (by omega)]
    by_cases e : a.getD n 0 = b.getD n 0
    · refine Ev.step (f := fun k => spec_l01Same.l0 k a b ((n + 1 : Nat) : Int)) (fun k => ?_) ?_
      · simp only [spec_l01Same.l0]; rw [if_pos (by omega), if_pos (by omega), if_pos (by omega), rdN, rdN, if_pos e, wS (by omega)]
      · rw [e, show (decide (b.getD n 0 :: a.drop (n + 1) = b.getD n 0 :: b.drop (n + 1))) = decide (a.drop (n + 1) = b.drop (n + 1)) from by simp]
        exact ih (n + 1) (by omega)
    · refine Ev.step (f := fun _ => some false) (fun k => ?_) ?_
      · simp only [spec_l01Same.l0]; rw [if_pos (by omega), if_pos (by omega), if_pos (by omega), rdN, rdN, if_neg e]
      · rw [show (decide (a.getD n 0 :: a.drop (n + 1) = b.getD n 0 :: b.drop (n + 1))) = false from decide_eq_false fun h => e (List.cons.inj h).1]
        exact Ev.now _
theorem same_ev (a b : List Int) (hb : a.length < 4611686018427387904) : Ev (fun k => spec_l01Same.f k a b) (decide (a = b)) := by
  by_cases hl : a.length = b.length
  · refine Ev.congr (f := fun k => spec_l01Same.l0 k a b ((0 : Nat) : Int)) (fun k => ?_) ?_
    · unfold spec_l01Same.f; rw [if_pos (by omega)]; rfl
    · exact same_l0 a b hl hb a.length 0 (by omega)
  · refine Ev.congr (f := fun _ => some false) (fun k => ?_) ?_
    · unfold spec_l01Same.f; rw [if_neg (by omega)]
    · rw [decide_eq_false fun h => hl (by rw [h])]; exact Ev.now _
theorem equal_l0 (a b : List Int) (hl : a.length = b.length) (hb : a.length < 4611686018427387904) : ∀ d n, n + d = a.length → Ev (fun k => slices_Equal_int64_int64.l0 k a b (a.length : Int) (n : Int)) (decide (a.drop n = b.drop n)) := by
  intro d
  induction d with
  | zero =>
    intro n hn
    rw [List.drop_of_length_le (by omega), List.drop_of_length_le (by omega)]
    refine Ev.step (f := fun _ => some _) (fun k => ?_) (Ev.now _)
    simp only [slices_Equal_int64_int64.l0]; rw [if_neg (by omega)]; rfl
  | succ d ih =>
    intro n hn
    rw [drop_cons (l := a) (by omega), drop_cons (l := b) (by omega)]
    by_cases e : a.getD n 0 = b.getD n 0
    · refine Ev.step (f := fun k => slices_Equal_int64_int64.l0 k a b (a.length : Int) ((n + 1 : Nat) : Int)) (fun k => ?_) ?_
      · simp only [slices_Equal_int64_int64.l0]; rw [if_pos (by omega), if_pos (by omega), if_pos (by omega), if_pos (by omega), rdN, rdN, if_pos e, wS (by omega)]
      · rw [e, show (decide (b.getD n 0 :: a.drop (n + 1) = b.getD n 0 :: b.drop (n + 1))) = decide (a.drop (n + 1) = b.drop (n + 1)) from by simp]
        exact ih (n + 1) (by omega)
    · refine Ev.step (f := fun _ => some false) (fun k => ?_) ?_
      · simp only [slices_Equal_int64_int64.l0]; rw [if_pos (by omega), if_pos (by omega), if_pos (by omega), if_pos (by omega), rdN, rdN, if_neg e]
      · rw [show (decide (a.getD n 0 :: a.drop (n + 1) = b.getD n 0 :: b.drop (n + 1))) = false from decide_eq_false fun h => e (List.cons.inj h).1]
        exact Ev.now _
theorem equal_ev (a b : List Int) (hb : a.length < 4611686018427387904) : Ev (fun k => slices_Equal_int64_int64.f k a b) (decide (a = b)) := by
  by_cases hl : a.length = b.length
  · refine Ev.congr (f := fun k => slices_Equal_int64_int64.l0 k a b (a.length : Int) ((0 : Nat) : Int)) (fun k => ?_) ?_
    · unfold slices_Equal_int64_int64.f; rw [if_pos (by omega)]; rfl
    · exact equal_l0 a b hl hb a.length 0 (by omega)
  · refine Ev.congr (f := fun _ => some false) (fun k => ?_) ?_
    · unfold slices_Equal_int64_int64.f; rw [if_neg (by omega)]
    · rw [decide_eq_false fun h => hl (by rw [h])]; exact Ev.now _
theorem twice_l1 (l : List Int) (n : Nat) (hn : n < l.length) (hb : l.length < 4611686018427387904) (r : Bool)
    (hr : Ev (fun k => if ((l.count (l.getD n 0) : Nat) : Int) = 2 then spec_l01Twice.l0 k l ((n + 1 : Nat) : Int) else some false) r) :
    ∀ d m c, m + d = l.length → c + (l.drop m).count (l.getD n 0) = l.count (l.getD n 0) → Ev (fun k => spec_l01Twice.l1 k l (n : Int) (c : Int) (m : Int)) r := by
  intro d
  induction d with
  | zero =>
    intro m c hm hc
    rw [List.drop_of_length_le (by omega), List.count_nil, Nat.add_zero] at hc
    refine Ev.step (fun k => ?_) hr
    simp only [spec_l01Twice.l1]; rw [if_neg (by omega), wS (by omega), hc]
  | succ d ih =>
    intro m c hm hc
    rw [drop_cons (l := l) (by omega), List.count_cons] at hc
    have hle := List.count_le_length (a := l.getD n 0) (l := l)
    by_cases e : l.getD m 0 = l.getD n 0
    · rw [e, if_pos (BEq.rfl)] at hc
      refine Ev.step (fun k => ?_) (ih (m + 1) (c + 1) (by omega) (by omega))
      simp only [spec_l01Twice.l1]; rw [if_pos (by omega), if_pos (by omega), if_pos (by omega), if_pos (by omega), rdN, rdN, if_pos e, wS (by omega), wS (by omega)]
    · rw [if_neg (by simpa using e)] at hc
      refine Ev.step (fun k => ?_) (ih (m + 1) c (by omega) (by omega))
      simp only [spec_l01Twice.l1]; rw [if_pos (by omega), if_pos (by omega), if_pos (by omega), if_pos (by omega), rdN, rdN, if_neg e, wS (by omega)]
theorem twice_l0 (l : List Int) (hb : l.length < 4611686018427387904) : ∀ d n, n + d = l.length → Ev (fun k => spec_l01Twice.l0 k l (n : Int)) ((l.drop n).all fun x => l.count x == 2) := by
  intro d
  induction d with
  | zero =>
    intro n hn
    rw [List.drop_of_length_le (by omega)]
    refine Ev.step (f := fun _ => some true) (fun k => ?_) (Ev.now _)
    simp only [spec_l01Twice.l0]; rw [if_neg (by omega)]
  | succ d ih =>
    intro n hn
    rw [drop_cons (l := l) (by omega), List.all_cons]
    refine Ev.step (f := fun k => spec_l01Twice.l1 k l (n : Int) ((0 : Nat) : Int) ((0 : Nat) : Int)) (fun k => ?_) ?_
    · simp only [spec_l01Twice.l0]; rw [if_pos (by omega)]; rfl
    · refine twice_l1 l n (by omega) hb _ ?_ l.length 0 0 (by omega) (by simp)
      by_cases e : l.count (l.getD n 0) = 2
      · refine Ev.congr (fun k => if_pos (by omega)) ?_
        rw [e]; simp only [BEq.rfl, Bool.true_and]
        exact ih (n + 1) (by omega)
      · refine Ev.congr (fun k => if_neg (by omega)) ?_
        rw [show (l.count (l.getD n 0) == 2) = false from by simpa using e, Bool.false_and]
        exact Ev.now _
theorem twice_ev (l : List Int) (hb : l.length < 4611686018427387904) : Ev (fun k => spec_l01Twice.f k l) (l.all fun x => l.count x == 2) :=
  Ev.congr (f := fun k => spec_l01Twice.l0 k l ((0 : Nat) : Int)) (fun _ => rfl) (twice_l0 l hb l.length 0 (by omega))
theorem snocInd {P : List Int → Prop} (h0 : P []) (h1 : ∀ l x, P l → P (l ++ [x])) : ∀ l, P l := by
  intro l
  suffices h : ∀ n, ∀ l : List Int, l.length = n → P l from h _ l rfl
  intro n
  induction n with
  | zero => intro l hl; rw [List.length_eq_zero_iff.1 hl]; exact h0
  | succ n ih =>
    intro l hl
    have hne : l ≠ [] := fun h => by rw [h] at hl; exact absurd hl (by simp)
    rw [← List.dropLast_concat_getLast hne]
    exact h1 _ _ (ih _ (by rw [List.length_dropLast]; omega))
theorem mets_nodup (l : List Int) : (mets l).Nodup := by
  refine snocInd (P := fun l => (mets l).Nodup) ?_ ?_ l
  · rw [mets_nil]; exact List.nodup_nil
  · intro l x h
    rw [mets_snoc]
    split
    · exact h
    · rename_i hx
      rw [List.nodup_append]
      exact ⟨h, List.nodup_cons.2 ⟨by simp, List.nodup_nil⟩, fun a ha b hb => by
        rw [List.mem_singleton] at hb; subst hb; intro e; subst e; exact hx (List.contains_iff_mem.2 ha)⟩
theorem idxOf_getD {m : List Int} (hd : m.Nodup) {j : Nat} (hj : j < m.length) : m.idxOf (m.getD j 0) = j := by
  rw [List.getD_eq_getElem?_getD, List.getElem?_eq_getElem hj]
  exact hd.idxOf_getElem j hj
theorem normal_l1 (l met out : List Int) (n : Nat) (hn : n < l.length) (hd : met.Nodup) (hm : met.length < 4611686018427387904) (r : List Int)
    (hr : Ev (fun k => if met.contains (l.getD n 0) then (if out.length < 17592186044416 then spec_l01Normal.l0 k l met (out ++ [(met.idxOf (l.getD n 0) : Int)]) (wrap64 ((n : Int) + 1)) else none)
      else (if met.length < 17592186044416 then (if out.length < 17592186044416 then spec_l01Normal.l0 k l (met ++ [l.getD n 0]) (out ++ [(met.length : Int)]) (wrap64 ((n : Int) + 1)) else none) else none)) r) :
    ∀ d m, m + d = met.length → Ev (fun k => spec_l01Normal.l1 k l met out (n : Int) (if (met.take m).contains (l.getD n 0) then (met.idxOf (l.getD n 0) : Int) else -1) (m : Int)) r := by
  intro d
  induction d with
  | zero =>
    intro m hmm
    refine Ev.step (fun k => ?_) hr
    simp only [spec_l01Normal.l1]
    rw [if_neg (by omega), List.take_of_length_le (by omega)]
    by_cases hc : met.contains (l.getD n 0) = true
    · rw [if_pos hc, if_pos hc, if_neg (by omega)]
    · rw [if_neg hc, if_neg hc, if_pos (by omega), if_pos (by omega), if_pos (by omega), rdN]
  | succ d ih =>
    intro m hmm
    refine Ev.step (fun k => ?_) (ih (m + 1) (by omega))
    have ht : (met.take (m + 1)).contains (l.getD n 0) = ((met.take m).contains (l.getD n 0) || (met.getD m 0 == l.getD n 0)) := by
      rw [take_snoc (by omega)]
      generalize met.getD m 0 = u
      generalize l.getD n 0 = v
      rw [Bool.eq_iff_iff]
      simp only [List.contains_iff_mem, List.mem_append, List.mem_singleton, Bool.or_eq_true, beq_iff_eq]
      exact or_congr Iff.rfl eq_comm
    simp only [spec_l01Normal.l1]
    rw [if_pos (by omega), if_pos (by omega), if_pos (by omega), if_pos (by omega), rdN, rdN, wS (by omega), ht]
    by_cases e : met.getD m 0 = l.getD n 0
    · rw [if_pos e, ← e, idxOf_getD hd (by omega)]; simp
    · rw [if_neg e, show (met.getD m 0 == l.getD n 0) = false from by simpa using e, Bool.or_false]
theorem normal_l0 (l : List Int) (hb : l.length < 17592186044416) : ∀ d n, n + d = l.length → Ev (fun k => spec_l01Normal.l0 k l (mets (l.take n)) (nrm (l.take n)) (n : Int)) (nrm l) := by
  intro d
  induction d with
  | zero =>
    intro n hn
    refine Ev.step (f := fun _ => some (nrm l)) (fun k => ?_) (Ev.now _)
    simp only [spec_l01Normal.l0]; rw [if_neg (by omega), List.take_of_length_le (by omega)]
  | succ d ih =>
    intro n hn
    have h1 := mets_le (l.take n)
    have h2 := nrm_len (l.take n)
    have h3 : (l.take n).length ≤ l.length := List.length_take_le' _ _
    refine Ev.step (f := fun k => spec_l01Normal.l1 k l (mets (l.take n)) (nrm (l.take n)) (n : Int) (if ((mets (l.take n)).take 0).contains (l.getD n 0) then ((mets (l.take n)).idxOf (l.getD n 0) : Int) else -1) ((0 : Nat) : Int)) (fun k => ?_) ?_
    · simp only [spec_l01Normal.l0]; rw [if_pos (by omega)]; simp
    · refine normal_l1 l _ _ n (by omega) (mets_nodup _) (by omega) _ ?_ (mets (l.take n)).length 0 (by omega)
      have hi := ih (n + 1) (by omega)
      rw [take_snoc (by omega), mets_snoc, nrm_snoc] at hi
      by_cases hc : (mets (l.take n)).contains (l.getD n 0) = true
      · rw [if_pos hc, if_pos hc] at hi
        refine Ev.congr (fun k => ?_) hi
        rw [if_pos hc, if_pos (by omega), wS (by omega)]
      · rw [if_neg hc, if_neg hc] at hi
        refine Ev.congr (fun k => ?_) hi
        rw [if_neg hc, if_pos (by omega), if_pos (by omega), wS (by omega)]
theorem normal_ev (l : List Int) (hb : l.length < 17592186044416) : Ev (fun k => spec_l01Normal.f k l) (nrm l) :=
  Ev.congr (f := fun k => spec_l01Normal.l0 k l (mets (l.take 0)) (nrm (l.take 0)) ((0 : Nat) : Int)) (fun _ => rfl) (normal_l0 l hb l.length 0 (by omega))
def tw (l : List Int) : Bool := l.all fun x => l.count x == 2
def isW (l : List Int) : Bool := decide (l.length ≤ 12) && tw l && decide (nrm l = l)
theorem is_ev (l : List Int) : Ev (fun k => spec_l01Is.f k l) (isW l) := by
  unfold spec_l01Is.f isW
  by_cases hl : l.length ≤ 12
  · refine Ev.congr (fun k => if_pos (by omega)) ?_
    rw [decide_eq_true hl, Bool.true_and]
    refine Ev.bind (twice_ev l (by omega)) ?_
    show Ev _ (tw l && _)
    cases ht : tw l with
    | false => exact Ev.congr (fun k => if_neg (by unfold tw at ht; rw [ht]; simp)) (Ev.now _)
    | true =>
      refine Ev.congr (fun k => if_pos (by unfold tw at ht; rw [ht])) ?_
      rw [Bool.true_and]
      refine Ev.bind (normal_ev l (by omega)) ?_
      have hn := nrm_len l
      exact Ev.bind (same_ev (nrm l) l (by omega)) (Ev.now _)
  · refine Ev.congr (fun k => if_neg (by omega)) ?_
    rw [decide_eq_false hl, Bool.false_and, Bool.false_and]
    exact Ev.now _
theorem okL_of {l : List Int} (hl : l.length * 8 ≤ 140737488351232) (hw : ∀ x ∈ l, (Lit.int .i64 x).wf = true) : okL l = true := by
  unfold okL
  simp only [Bool.and_eq_true, decide_eq_true_eq, List.all_eq_true]
  exact ⟨hl, hw⟩
theorem isWord_ev (l : List Int) (hw : ∀ x ∈ l, (Lit.int .i64 x).wf = true) : Ev (fun k => impl_IsWord.f k l) (isW l) := by
  unfold impl_IsWord.f isW
  by_cases hl : l.length ≤ 12
  · refine Ev.congr (fun k => if_pos (by omega)) ?_
    have hok : okL l = true := okL_of (by omega) hw
    rw [decide_eq_true hl, Bool.true_and]
    refine Ev.bind (a := tw l) (Ev.congr (fun _ => by unfold impl_twice.f; rw [if_pos hok]; rfl) (Ev.now _)) ?_
    cases ht : tw l with
    | false => exact Ev.congr (fun k => if_neg (by simp)) (Ev.now _)
    | true =>
      refine Ev.congr (fun k => if_pos rfl) ?_
      rw [Bool.true_and]
      refine Ev.bind (a := nrm l) (Ev.congr (fun _ => by unfold impl_normal.f; rw [if_pos hok]) (Ev.now _)) ?_
      have hn := nrm_len l
      exact Ev.bind (equal_ev (nrm l) l (by omega)) (Ev.now _)
  · refine Ev.congr (fun k => if_neg (by omega)) ?_
    rw [decide_eq_false hl, Bool.false_and, Bool.false_and]
    exact Ev.now _
theorem in_f (a b c : Int) : impl_in.f a b c = some (decide (b ≤ a ∧ a ≤ c)) := by
  unfold impl_in.f
  by_cases h : a ≥ b
  · rw [if_pos h]; simp [h]
  · rw [if_neg h]; simp [h]
theorem spec_in_f (a b c : Int) : spec_l01In.f a b c = some (decide (b ≤ a ∧ a ≤ c)) := by
  unfold spec_l01In.f
  by_cases h : a ≥ b
  · rw [if_pos h]; simp [h]
  · rw [if_neg h]; simp [h]
end Go.Proofs.Ytnlhhbnoccobmaa.Pure
end
section
namespace Go.Proofs.Ytnlhhbnoccobmaa.Pure
open Go.RowKit Go.Proofs.Ytnlhhbnoccobmaa.F Go.Proofs.YtnlhhbnoccobmaaW.PrintWords Go.Proofs.YtnlhhbnoccobmaaW.PrintLast
def pA (w : List Int) (x : Int) : Nat := w.idxOf x
def pB (w : List Int) (x : Int) : Nat := pA w x + 1 + (w.drop (pA w x + 1)).idxOf x
theorem split1 {x : Int} {w : List Int} (h : x ∈ w) : ∃ u v, w = u ++ x :: v ∧ x ∉ u := List.eq_append_cons_of_mem h
theorem split2 {x : Int} {w : List Int} (h : w.count x = 2) : ∃ u v t, w = u ++ x :: (v ++ x :: t) ∧ x ∉ u ∧ x ∉ v ∧ x ∉ t := by
  have h1 : x ∈ w := List.count_pos_iff.1 (by omega)
  obtain ⟨u, z, rfl, hu⟩ := split1 h1
  rw [List.count_append, List.count_eq_zero.2 hu, List.count_cons_self] at h
  have h2 : x ∈ z := List.count_pos_iff.1 (by omega)
  obtain ⟨v, t, rfl, hv⟩ := split1 h2
  rw [List.count_append, List.count_eq_zero.2 hv, List.count_cons_self] at h
  exact ⟨u, v, t, rfl, hu, hv, List.count_eq_zero.1 (by omega)⟩
theorem idxOf_mid {x : Int} {u v : List Int} (hu : x ∉ u) : (u ++ x :: v).idxOf x = u.length := by
  rw [List.idxOf_append, if_neg hu, List.idxOf_cons_self]; omega
theorem pA_of {x : Int} {u v t : List Int} (hu : x ∉ u) : pA (u ++ x :: (v ++ x :: t)) x = u.length := idxOf_mid hu
theorem drop_mid {x : Int} {u v : List Int} : (u ++ x :: v).drop (u.length + 1) = v := by
  rw [List.drop_append, List.drop_of_length_le (by omega)]
  rw [show u.length + 1 - u.length = 1 from by omega]; rfl
theorem pB_of {x : Int} {u v t : List Int} (hu : x ∉ u) (hv : x ∉ v) : pB (u ++ x :: (v ++ x :: t)) x = u.length + 1 + v.length := by
  unfold pB
  rw [pA_of hu, drop_mid, idxOf_mid hv]
theorem places_skip (l : List Int) (x : Int) (hb : l.length < 4611686018427387904) (a b : Int) (r : Int × Int) : ∀ d n, n + d ≤ l.length → x ∉ (l.drop n).take d → Ev (fun k => spec_l01Places.l0 k l x a b ((n + d : Nat) : Int)) r → Ev (fun k => spec_l01Places.l0 k l x a b (n : Int)) r := by
  intro d
  induction d with
  | zero => intro n _ _ h; exact h
  | succ d ih =>
    intro n hn hx h
    rw [drop_cons (by omega), List.take_succ_cons] at hx
    refine Ev.step (fun k => ?_) (ih (n + 1) (by omega) (fun hm => hx (List.mem_cons_of_mem _ hm)) (by rw [show n + 1 + d = n + (d + 1) from by omega]; exact h))
    simp only [spec_l01Places.l0]
    rw [if_pos (by omega), if_pos (by omega), rdN, if_neg (fun e => hx (by rw [e]; exact List.mem_cons_self)), wS (by omega)]
theorem getD_mid {x : Int} {u v : List Int} : (u ++ x :: v).getD u.length 0 = x := by
  rw [List.getD_eq_getElem?_getD, List.getElem?_append_right (Nat.le_refl _)]; simp
theorem places_ev (w : List Int) (x : Int) (hb : w.length < 4611686018427387904) (h : w.count x = 2) : Ev (fun k => spec_l01Places.f k w x) ((pA w x : Int), (pB w x : Int)) := by
  obtain ⟨u, v, t, rfl, hu, hv, ht⟩ := split2 h
  rw [pA_of hu, pB_of hu hv]
  have hlen : (u ++ x :: (v ++ x :: t)).length = u.length + 1 + v.length + 1 + t.length := by simp; omega
  have hd1 : (u ++ x :: (v ++ x :: t)).drop (u.length + 1) = v ++ x :: t := drop_mid
  have hd2 : (u ++ x :: (v ++ x :: t)).drop (u.length + 1 + v.length + 1) = t := by
    rw [show u.length + 1 + v.length + 1 = (u.length + 1) + (v.length + 1) from by omega, ← List.drop_drop, hd1, drop_mid]
  have hg2 : (u ++ x :: (v ++ x :: t)).getD (u.length + 1 + v.length) 0 = x := by
    rw [List.getD_eq_getElem?_getD, ← List.getElem?_drop, hd1, List.getElem?_append_right (Nat.le_refl _)]; simp
  unfold spec_l01Places.f
  refine places_skip _ x hb (-1) (-1) _ u.length 0 (by omega) (by simpa using hu) ?_
  rw [Nat.zero_add]
  refine Ev.step (f := fun k => spec_l01Places.l0 k (u ++ x :: (v ++ x :: t)) x (u.length : Int) (u.length : Int) ((u.length + 1 : Nat) : Int)) (fun k => ?_) ?_
  · simp only [spec_l01Places.l0]
    rw [if_pos (by omega), if_pos (by omega), rdN, if_pos getD_mid, if_pos (by omega), wS (by omega)]
  refine places_skip _ x hb _ _ _ v.length _ (by omega) (by rw [hd1]; simpa using hv) ?_
  refine Ev.step (f := fun k => spec_l01Places.l0 k (u ++ x :: (v ++ x :: t)) x (u.length : Int) ((u.length + 1 + v.length : Nat) : Int) ((u.length + 1 + v.length + 1 : Nat) : Int)) (fun k => ?_) ?_
  · simp only [spec_l01Places.l0]
    rw [if_pos (by omega), if_pos (by omega), rdN, if_pos hg2, if_neg (by omega), wS (by omega)]
  refine places_skip _ x hb _ _ _ t.length _ (by omega) (by rw [hd2]; simpa using ht) ?_
  refine Ev.step (f := fun _ => some _) (fun k => ?_) (Ev.now _)
  simp only [spec_l01Places.l0]
  rw [if_neg (by omega)]
theorem count_take {x : Int} {w : List Int} (h : w.count x = 2) (q : Nat) (hq : q ≤ w.length) : (w.take q).count x = (if pA w x < q then 1 else 0) + (if pB w x < q then 1 else 0) := by
  obtain ⟨u, v, t, rfl, hu, hv, ht⟩ := split2 h
  rw [pA_of hu, pB_of hu hv]
  have cu : ∀ m, (u.take m).count x = 0 := fun m => List.count_eq_zero.2 (fun hm => hu (List.mem_of_mem_take hm))
  have cv : ∀ m, (v.take m).count x = 0 := fun m => List.count_eq_zero.2 (fun hm => hv (List.mem_of_mem_take hm))
  have ct : ∀ m, (t.take m).count x = 0 := fun m => List.count_eq_zero.2 (fun hm => ht (List.mem_of_mem_take hm))
  rw [List.take_append, List.count_append, cu, Nat.zero_add]
  by_cases h1 : u.length < q
  · rw [if_pos h1]
    obtain ⟨m, hm⟩ : ∃ m, q - u.length = m + 1 := ⟨q - u.length - 1, by omega⟩
    rw [hm, List.take_succ_cons, List.count_cons_self, List.take_append, List.count_append, cv, Nat.zero_add]
    by_cases h2 : u.length + 1 + v.length < q
    · rw [if_pos h2]
      obtain ⟨m2, hm2⟩ : ∃ m2, m - v.length = m2 + 1 := ⟨m - v.length - 1, by omega⟩
      rw [hm2, List.take_succ_cons, List.count_cons_self, ct]
    · rw [if_neg h2, show m - v.length = 0 from by omega]; simp
  · rw [if_neg h1, if_neg (by omega), show q - u.length = 0 from by omega]; simp
theorem places_lt {x : Int} {w : List Int} (h : w.count x = 2) : pA w x < pB w x ∧ pB w x < w.length := by
  obtain ⟨u, v, t, rfl, hu, hv, ht⟩ := split2 h
  rw [pA_of hu, pB_of hu hv]
  simp; omega
theorem getD_places {x : Int} {w : List Int} (h : w.count x = 2) (j : Nat) (hj : j < w.length) : w.getD j 0 = x ↔ j = pA w x ∨ j = pB w x := by
  have h1 := count_take h j (by omega)
  have h2 := count_take h (j + 1) (by omega)
  rw [take_snoc hj, List.count_append] at h2
  have hp := places_lt h
  by_cases e : w.getD j 0 = x
  · rw [e] at h2
    simp only [List.count_singleton_self] at h2
    refine ⟨fun _ => ?_, fun _ => e⟩
    by_cases a : j = pA w x
    · exact .inl a
    · by_cases b : j = pB w x
      · exact .inr b
      · exfalso
        have : (pA w x < j) ↔ (pA w x < j + 1) := by omega
        have : (pB w x < j) ↔ (pB w x < j + 1) := by omega
        simp only [*] at h1 h2
        omega
  · have hz : [w.getD j 0].count x = 0 := List.count_eq_zero.2 (by simpa using fun h => e h.symm)
    rw [hz, h1] at h2
    refine ⟨fun h => absurd h e, fun h => ?_⟩
    exfalso
    rcases h with rfl | rfl
    · rw [if_neg (by omega), if_neg (by omega), if_pos (by omega), if_neg (by omega)] at h2; omega
    · rw [if_pos (by omega), if_neg (by omega), if_pos (by omega), if_pos (by omega)] at h2; omega
end Go.Proofs.Ytnlhhbnoccobmaa.Pure
end
section
namespace Go.Proofs.Ytnlhhbnoccobmaa.Pure
open Go.RowKit Go.Proofs.Ytnlhhbnoccobmaa.F Go.Proofs.YtnlhhbnoccobmaaW.PrintWords Go.Proofs.YtnlhhbnoccobmaaW.PrintLast
theorem mets_mem (l : List Int) (x : Int) : x ∈ mets l ↔ x ∈ l := by
  refine snocInd (P := fun l => x ∈ mets l ↔ x ∈ l) ?_ ?_ l
  · rw [mets_nil]
  · intro l y h
    rw [mets_snoc]
    split
    · rename_i hy
      have hy' : y ∈ mets l := List.contains_iff_mem.1 hy
      rw [List.mem_append, h, List.mem_singleton]
      refine ⟨.inl, fun g => ?_⟩
      rcases g with g | g
      · exact g
      · subst g; exact h.1 hy'
    · rw [List.mem_append, List.mem_append, h]
theorem nrm_mem (l : List Int) (x : Int) : x ∈ nrm l ↔ ∃ i : Nat, i < (mets l).length ∧ x = (i : Int) := by
  refine snocInd (P := fun l => x ∈ nrm l ↔ ∃ i : Nat, i < (mets l).length ∧ x = (i : Int)) ?_ ?_ l
  · rw [nrm_nil, mets_nil]; simp
  · intro l y h
    rw [nrm_snoc, mets_snoc, List.mem_append, h, List.mem_singleton]
    by_cases hy : (mets l).contains y = true
    · rw [if_pos hy, if_pos hy]
      have hlt : (mets l).idxOf y < (mets l).length := List.idxOf_lt_length_of_mem (List.contains_iff_mem.1 hy)
      refine ⟨fun g => ?_, .inl⟩
      rcases g with g | g
      · exact g
      · exact ⟨_, hlt, g⟩
    · rw [if_neg hy, if_neg hy, List.length_append, List.length_singleton]
      refine ⟨fun g => ?_, fun ⟨i, hi, e⟩ => ?_⟩
      · rcases g with ⟨i, hi, e⟩ | g
        · exact ⟨i, by omega, e⟩
        · exact ⟨_, by omega, g⟩
      · by_cases hc : i < (mets l).length
        · exact .inl ⟨i, hc, e⟩
        · exact .inr (by rw [e]; congr 1; omega)
theorem len_two : ∀ (m l : List Int), m.Nodup → (∀ x ∈ l, x ∈ m) → (∀ x ∈ m, l.count x = 2) → l.length = 2 * m.length
  | [], l, _, h, _ => by
    cases l with
    | nil => rfl
    | cons x r => exact absurd (h x List.mem_cons_self) (by simp)
  | y :: ms, l, hd, h, hc => by
    have hy := hc y List.mem_cons_self
    have hd' := List.nodup_cons.1 hd
    have h1 := len_two ms (l.filter fun z => !(z == y)) hd'.2 (fun x hx => by
        have hx' := List.mem_filter.1 hx
        rcases List.mem_cons.1 (h x hx'.1) with e | e
        · exact absurd hx'.2 (by simp [e])
        · exact e) (fun x hx => by
        have hne : x ≠ y := fun e => hd'.1 (e ▸ hx)
        rw [List.count_filter (by simpa using hne)]
        exact hc x (List.mem_cons_of_mem _ hx))
    have h2 := List.length_eq_countP_add_countP (fun z => z == y) (l := l)
    rw [List.countP_eq_length_filter (p := fun z => decide ¬((z == y) = true))] at h2
    have e : (fun z : Int => decide ¬((z == y) = true)) = fun z => !(z == y) := by
      funext z; cases z == y <;> rfl
    rw [e] at h2
    have h3 : l.countP (fun z => z == y) = 2 := hy
    rw [List.length_cons]
    omega
structure Word (w : List Int) : Prop where
  le : w.length ≤ 12
  two : ∀ x ∈ w, w.count x = 2
  nrm : nrm w = w
theorem isW_iff (w : List Int) : isW w = true ↔ Word w := by
  unfold isW tw
  simp only [Bool.and_eq_true, decide_eq_true_eq, List.all_eq_true, beq_iff_eq]
  exact ⟨fun h => ⟨h.1.1, h.1.2, h.2⟩, fun h => ⟨⟨h.le, h.two⟩, h.nrm⟩⟩
theorem Word.len {w : List Int} (h : Word w) : w.length = 2 * (mets w).length :=
  len_two _ _ (mets_nodup w) (fun x hx => (mets_mem w x).2 hx) (fun x hx => h.two x ((mets_mem w x).1 hx))
theorem Word.half {w : List Int} (h : Word w) : w.length / 2 = (mets w).length := by have := h.len; omega
theorem Word.mem {w : List Int} (h : Word w) (x : Int) : x ∈ w ↔ ∃ i : Nat, i < w.length / 2 ∧ x = (i : Int) := by
  have := nrm_mem w x
  rw [h.nrm] at this
  rw [this, h.half]
theorem Word.count {w : List Int} (h : Word w) {i : Nat} (hi : i < w.length / 2) : w.count (i : Int) = 2 := h.two _ ((h.mem _).2 ⟨i, hi, rfl⟩)
end Go.Proofs.Ytnlhhbnoccobmaa.Pure
end
section
namespace Go.Proofs.Ytnlhhbnoccobmaa.Pure
open Go.RowKit Go.Proofs.Ytnlhhbnoccobmaa.F Go.Proofs.YtnlhhbnoccobmaaW.PrintWords Go.Proofs.YtnlhhbnoccobmaaW.PrintLast
theorem Ev_succ {α : Type} {g : Nat → Option α} {r : α} (h : Ev (fun k => g (k + 1)) r) : Ev g r := Ev.step (fun _ => rfl) h
theorem own_f (l : List Int) (hb : l.length < 17592186044416) : spec_l01Own.f l = some l := by
  unfold spec_l01Own.f
  rw [Option.bind_some, if_pos (by simpa using hb)]; rfl
theorem index_l0 (l : List Int) (x : Int) (hb : l.length < 4611686018427387904) : ∀ d n, n + d = l.length → x ∈ l.drop n → Ev (fun k => slices_Index_int64_int64.l0 k l x (l.length : Int) (n : Int)) ((n + (l.drop n).idxOf x : Nat) : Int) := by
  intro d
  induction d with
  | zero => intro n hn hx; rw [List.drop_of_length_le (by omega)] at hx; exact absurd hx (by simp)
  | succ d ih =>
    intro n hn hx
    rw [drop_cons (by omega)] at hx ⊢
    by_cases e : x = l.getD n 0
    · refine Ev.step (f := fun _ => some (n : Int)) (fun k => ?_) ?_
      · simp only [slices_Index_int64_int64.l0]; rw [if_pos (by omega), if_pos (by omega), if_pos (by omega), rdN, if_pos e]
      · rw [← e, List.idxOf_cons_self]; exact Ev.now _
    · have hx' : x ∈ l.drop (n + 1) := (List.mem_cons.1 hx).resolve_left e
      rw [List.idxOf_cons, show (l.getD n 0 == x) = false from beq_eq_false_iff_ne.2 (Ne.symm e), cond_false, show n + ((l.drop (n + 1)).idxOf x + 1) = n + 1 + (l.drop (n + 1)).idxOf x from by omega]
      refine Ev.step (fun k => ?_) (ih (n + 1) (by omega) hx')
      simp only [slices_Index_int64_int64.l0]; rw [if_pos (by omega), if_pos (by omega), if_pos (by omega), rdN, if_neg e, wS (by omega)]
theorem index_ev (l : List Int) (x : Int) (hb : l.length < 4611686018427387904) (hx : x ∈ l) : Ev (fun k => slices_Index_int64_int64.f k l x) (l.idxOf x : Int) := by
  have h := index_l0 l x hb l.length 0 (by omega) hx
  rw [Nat.zero_add] at h
  exact h
theorem iplaces_ev (w : List Int) (x : Int) (hb : w.length < 4611686018427387904) (h : w.count x = 2) : Ev (fun k => impl_places.f k w x) ((pA w x : Int), (pB w x : Int)) := by
  have hm : x ∈ w := List.count_pos_iff.1 (by omega)
  have hp := places_lt h
  have hm2 : x ∈ w.drop (pA w x + 1) := by
    obtain ⟨u, v, t, rfl, hu, hv, ht⟩ := split2 h
    rw [pA_of hu, drop_mid]; simp
  unfold impl_places.f
  have hi : Ev (fun k => slices_Index_int64_int64.f k w x) (pA w x : Int) := index_ev w x hb hm
  refine Ev.bind hi ?_
  show Ev (fun k => if 0 ≤ wrap64 ((pA w x : Int) + 1) then _ else none) _
  have e := wS (n := pA w x) (by omega)
  refine Ev.congr (f := fun k => (slices_Index_int64_int64.f k (w.drop (pA w x + 1)) x).bind fun t295 => some ((pA w x : Int), wrap64 (((pA w x + 1 : Nat) : Int) + t295))) (fun k => ?_) ?_
  · rw [e, if_pos (by omega), if_pos (by omega), Int.toNat_natCast]
  · refine Ev.bind (index_ev _ x (by rw [List.length_drop]; omega) hm2) ?_
    have e2 : wrap64 (((pA w x + 1 : Nat) : Int) + ((w.drop (pA w x + 1)).idxOf x : Int)) = (pB w x : Int) := by
      have : pB w x = pA w x + 1 + (w.drop (pA w x + 1)).idxOf x := rfl
      unfold wrap64; omega
    rw [← e2]; exact Ev.now _
theorem chords_f (w : List Int) (h : w.length ≤ 12) : impl_chords.f w = some ((w.length / 2 : Nat) : Int) := by
  unfold impl_chords.f
  rw [show wrap64 ((w.length : Int) / 2) = ((w.length / 2 : Nat) : Int) from by unfold wrap64; omega]
theorem code10_l0 (w ls : List Int) (h : w.length ≤ 12) (hb : ls.length < 4611686018427387904) : ∀ d n, n + d = ls.length → Ev (fun k => spec_l10Code.l0 k w ls (n : Int)) (if ∀ i ∈ ls.drop n, 0 ≤ i ∧ i < ((w.length / 2 : Nat) : Int) then 0 else 2) := by
  intro d
  induction d with
  | zero =>
    intro n hn
    rw [List.drop_of_length_le (by omega), if_pos (by simp)]
    refine Ev.step (f := fun _ => some _) (fun k => ?_) (Ev.now _)
    simp only [spec_l10Code.l0]; rw [if_neg (by omega)]
  | succ d ih =>
    intro n hn
    rw [drop_cons (by omega)]
    have hh := ih (n + 1) (by omega)
    refine Ev.step (f := fun k => if 0 ≤ ls.getD n 0 ∧ ls.getD n 0 < ((w.length / 2 : Nat) : Int) then spec_l10Code.l0 k w ls ((n + 1 : Nat) : Int) else some 2) (fun k => ?_) ?_
    · simp only [spec_l10Code.l0]
      rw [if_pos (by omega), if_pos (by omega), rdN, spec_in_f, Option.bind_some, wS (by omega), show wrap64 (wrap64 ((w.length : Int) / 2) - 1) = ((w.length / 2 : Nat) : Int) - 1 from by unfold wrap64; omega]
      by_cases g : 0 ≤ ls.getD n 0 ∧ ls.getD n 0 < ((w.length / 2 : Nat) : Int)
      · rw [if_pos g, if_pos (by rw [decide_eq_true_eq]; omega)]
      · rw [if_neg g, if_neg (by rw [decide_eq_true_eq]; omega)]
    by_cases g : 0 ≤ ls.getD n 0 ∧ ls.getD n 0 < ((w.length / 2 : Nat) : Int)
    · refine Ev.congr (fun k => if_pos g) ?_
      have e : (∀ i ∈ ls.getD n 0 :: ls.drop (n + 1), 0 ≤ i ∧ i < ((w.length / 2 : Nat) : Int)) ↔ ∀ i ∈ ls.drop (n + 1), 0 ≤ i ∧ i < ((w.length / 2 : Nat) : Int) := by
        rw [List.forall_mem_cons]; exact ⟨fun h => h.2, fun h => ⟨g, h⟩⟩
      simp only [e]; exact hh
    · refine Ev.congr (fun k => if_neg g) ?_
      rw [if_neg (fun h => g (h _ List.mem_cons_self))]; exact Ev.now _
theorem code10_ev (w ls : List Int) (hb : ls.length < 4611686018427387904) : Ev (fun k => spec_l10Code.f k w ls) (if isW w = true then (if ∀ i ∈ ls, 0 ≤ i ∧ i < ((w.length / 2 : Nat) : Int) then 0 else 2) else 1) := by
  unfold spec_l10Code.f
  refine Ev.bind (is_ev w) ?_
  by_cases h : isW w = true
  · rw [if_pos h]
    exact Ev.congr (fun k => if_pos h) (code10_l0 w ls ((isW_iff w).1 h).le hb ls.length 0 (by omega))
  · rw [if_neg h]
    exact Ev.congr (fun k => if_neg h) (Ev.now _)
end Go.Proofs.Ytnlhhbnoccobmaa.Pure
end
section
namespace Go.Proofs.Ytnlhhbnoccobmaa.Pure
open Go.RowKit Go.Proofs.Ytnlhhbnoccobmaa.F Go.Proofs.YtnlhhbnoccobmaaW.PrintWords Go.Proofs.YtnlhhbnoccobmaaW.PrintLast
theorem places_ne {w : List Int} (hw : Word w) {i k : Nat} (hne : i ≠ k) (hi : i < w.length / 2) (hk : k < w.length / 2) : pA w i ≠ pA w k ∧ pA w i ≠ pB w k ∧ pB w i ≠ pA w k ∧ pB w i ≠ pB w k := by
  have ci := hw.count hi
  have ck := hw.count hk
  have li := places_lt ci
  have lk := places_lt ck
  have a1 : w.getD (pA w i) 0 = (i : Int) := (getD_places ci _ (by omega)).2 (.inl rfl)
  have a2 : w.getD (pB w i) 0 = (i : Int) := (getD_places ci _ (by omega)).2 (.inr rfl)
  have b1 : w.getD (pA w k) 0 = (k : Int) := (getD_places ck _ (by omega)).2 (.inl rfl)
  have b2 : w.getD (pB w k) 0 = (k : Int) := (getD_places ck _ (by omega)).2 (.inr rfl)
  refine ⟨fun h => ?_, fun h => ?_, fun h => ?_, fun h => ?_⟩
  · rw [h, b1] at a1; omega
  · rw [h, b2] at a1; omega
  · rw [h, b1] at a2; omega
  · rw [h, b2] at a2; omega
def crossB (w : List Int) (i k : Nat) : Bool :=
  !(i == k) && ((decide (pA w i < pA w k) && decide (pA w k < pB w i)) != (decide (pA w i < pB w k) && decide (pB w k < pB w i)))
theorem icross_ev (w : List Int) (hw : Word w) (i k : Nat) (hi : i < w.length / 2) (hk : k < w.length / 2) : Ev (fun n => impl_cross.f n w i k) (crossB w i k) := by
  have hle := hw.le
  unfold impl_cross.f
  refine Ev.bind (iplaces_ev w i (by omega) (hw.count hi)) ?_
  refine Ev.bind (iplaces_ev w k (by omega) (hw.count hk)) ?_
  refine Ev.congr (fun n => ?_) (Ev.now _)
  unfold crossB
  by_cases e : i = k
  · subst e; rw [if_pos rfl]; simp
  · rw [if_neg (by omega), show (i == k) = false from by simpa using e]
    simp only [Int.ofNat_lt, gt_iff_lt]
    by_cases c1 : pA w i < pA w k <;> by_cases c2 : pA w i < pB w k <;> simp [c1, c2]
theorem scross {w : List Int} (hw : Word w) {i k : Nat} (hi : i < w.length / 2) (hk : k < w.length / 2) (hne : k ≠ i) :
    (decide ((pA w i : Int) ≤ (pA w k : Int) ∧ (pA w k : Int) ≤ (pB w i : Int)) != decide ((pA w i : Int) ≤ (pB w k : Int) ∧ (pB w k : Int) ≤ (pB w i : Int))) = crossB w i k := by
  have hp := places_ne hw (Ne.symm hne) hi hk
  unfold crossB
  rw [show (i == k) = false from by simpa using Ne.symm hne]
  have e1 : decide ((pA w i : Int) ≤ (pA w k : Int) ∧ (pA w k : Int) ≤ (pB w i : Int)) = (decide (pA w i < pA w k) && decide (pA w k < pB w i)) := by
    rw [Bool.eq_iff_iff]; simp only [Bool.and_eq_true, decide_eq_true_eq]; omega
  have e2 : decide ((pA w i : Int) ≤ (pB w k : Int) ∧ (pB w k : Int) ≤ (pB w i : Int)) = (decide (pA w i < pB w k) && decide (pB w k < pB w i)) := by
    rw [Bool.eq_iff_iff]; simp only [Bool.and_eq_true, decide_eq_true_eq]; omega
  rw [e1, e2]; simp
def ent (w : List Int) (i k : Nat) : Int := if crossB w i k then 1 else 0
def rowTo (w : List Int) (i m : Nat) : List Int := (List.range m).map (ent w i)
def rowsTo (w : List Int) (n : Nat) : List (List Int) := (List.range n).map fun i => rowTo w i (w.length / 2)
def rowsOf (w : List Int) : List (List Int) := rowsTo w (w.length / 2)
theorem rowTo_len (w : List Int) (i m : Nat) : (rowTo w i m).length = m := by simp [rowTo]
theorem rowTo_succ (w : List Int) (i m : Nat) : rowTo w i (m + 1) = rowTo w i m ++ [ent w i m] := by unfold rowTo; rw [List.range_succ, List.map_append]; rfl
theorem rowsTo_len (w : List Int) (n : Nat) : (rowsTo w n).length = n := by simp [rowsTo]
theorem rowsTo_succ (w : List Int) (n : Nat) : rowsTo w (n + 1) = rowsTo w n ++ [rowTo w n (w.length / 2)] := by unfold rowsTo; rw [List.range_succ, List.map_append]; rfl
theorem set_ent (w : List Int) (i m d : Nat) (v : Int) : (rowTo w i m ++ List.replicate (d + 1) 0).set m v = rowTo w i m ++ v :: List.replicate d 0 := by
  have hl := rowTo_len w i m
  rw [List.set_append_right _ _ (by omega), hl, Nat.sub_self, List.replicate_succ, List.set_cons_zero]
theorem half_w' (w : List Int) (h : w.length ≤ 12) : wrap64 ((w.length : Int) / 2) = ((w.length / 2 : Nat) : Int) := by unfold wrap64; omega
theorem srow_l1 (w : List Int) (hw : Word w) (out : List (List Int)) (i : Nat) (hi : i < w.length / 2) (r : List (List Int))
    (hr : Ev (fun k => if out.length < 5864062014805 then spec_l01Cross.l0 k w (out ++ [rowTo w i (w.length / 2)]) ((w.length / 2 : Nat) : Int) ((i + 1 : Nat) : Int) else none) r) :
    ∀ d m, m + d = w.length / 2 → Ev (fun k => spec_l01Cross.l1 k w out ((w.length / 2 : Nat) : Int) (i : Int) (rowTo w i m ++ List.replicate d 0) (pA w i : Int) (pB w i : Int) (m : Int)) r := by
  have hle := hw.le
  intro d
  induction d with
  | zero =>
    intro m hm
    refine Ev.step (fun k => ?_) hr
    simp only [spec_l01Cross.l1]
    rw [if_neg (by omega), wS (by omega), List.replicate_zero, List.append_nil, show m = w.length / 2 from by omega]
  | succ d ih =>
    intro m hm
    have hrow : rowTo w i (m + 1) ++ List.replicate d 0 = rowTo w i m ++ ent w i m :: List.replicate d 0 := by rw [rowTo_succ]; simp
    refine Ev_succ ?_
    simp only [spec_l01Cross.l1]
    refine Ev.congr (fun k => if_pos (by omega)) ?_
    refine Ev.bind (places_ev w m (by omega) (hw.count (by omega))) ?_
    have hh := ih (m + 1) (by omega)
    rw [hrow] at hh
    by_cases e : m = i
    · subst e
      refine Ev.congr (fun k => if_pos rfl) ?_
      rw [show ent w m m = 0 from by simp [ent, crossB], ← List.replicate_succ] at hh
      exact Ev.congr (fun k => by rw [wS (by omega)]) hh
    · refine Ev.congr (fun k => if_neg (by omega)) ?_
      refine Ev.congr (f := fun k => if crossB w i m = true then spec_l01Cross.l1 k w out ((w.length / 2 : Nat) : Int) (i : Int) (rowTo w i m ++ 1 :: List.replicate d 0) (pA w i : Int) (pB w i : Int) ((m + 1 : Nat) : Int) else spec_l01Cross.l1 k w out ((w.length / 2 : Nat) : Int) (i : Int) (rowTo w i m ++ 0 :: List.replicate d 0) (pA w i : Int) (pB w i : Int) ((m + 1 : Nat) : Int)) (fun k => ?_) ?_
      · rw [spec_in_f, Option.bind_some, spec_in_f, Option.bind_some, scross hw hi (by omega) e, wS (by omega), Int.toNat_natCast, set_ent, ← List.replicate_succ]
        have hl := rowTo_len w i m
        by_cases c : crossB w i m = true
        · rw [if_pos c, if_pos c, if_pos (by omega), if_pos (by rw [List.length_append, hl, List.length_replicate]; omega)]
        · rw [if_neg c, if_neg c]
      · by_cases c : crossB w i m = true
        · refine Ev.congr (fun k => if_pos c) ?_
          rw [show ent w i m = 1 from by unfold ent; rw [if_pos c]] at hh; exact hh
        · refine Ev.congr (fun k => if_neg c) ?_
          rw [show ent w i m = 0 from by unfold ent; rw [if_neg c]] at hh; exact hh
theorem srow_l0 (w : List Int) (hw : Word w) : ∀ d n, n + d = w.length / 2 → Ev (fun k => spec_l01Cross.l0 k w (rowsTo w n) ((w.length / 2 : Nat) : Int) (n : Int)) (rowsOf w) := by
  have hle := hw.le
  intro d
  induction d with
  | zero =>
    intro n hn
    refine Ev.step (f := fun _ => some (rowsOf w)) (fun k => ?_) (Ev.now _)
    simp only [spec_l01Cross.l0]; rw [if_neg (by omega), show n = w.length / 2 from by omega]; rfl
  | succ d ih =>
    intro n hn
    refine Ev_succ ?_
    simp only [spec_l01Cross.l0]
    refine Ev.congr (fun k => if_pos (by omega)) ?_
    refine Ev.congr (fun k => if_pos (by omega)) ?_
    refine Ev.congr (fun k => if_pos (by omega)) ?_
    refine Ev.bind (places_ev w n (by omega) (hw.count (by omega))) ?_
    have hl := rowsTo_len w n
    have h := srow_l1 w hw (rowsTo w n) n (by omega) _ (Ev.congr (fun k => if_pos (by omega)) (by have h := ih (n + 1) (by omega); rw [rowsTo_succ] at h; exact h)) (w.length / 2) 0 (by omega)
    rw [show rowTo w n 0 = [] from rfl, List.nil_append] at h
    exact Ev.congr (fun k => by rw [Int.toNat_natCast]; rfl) h
theorem srows_ev (w : List Int) (hw : Word w) : Ev (fun k => spec_l01Cross.f k w) (rowsOf w) := by
  have hle := hw.le
  refine Ev.congr (fun k => ?_) (srow_l0 w hw (w.length / 2) 0 (by omega))
  unfold spec_l01Cross.f
  rw [half_w' w hle]; rfl
theorem rowsOf_get {w : List Int} {i : Nat} (hi : i < w.length / 2) : (rowsOf w).getD i [] = rowTo w i (w.length / 2) := by
  unfold rowsOf rowsTo
  rw [List.getD_eq_getElem?_getD, List.getElem?_eq_getElem (by simpa using hi)]; simp
theorem rowTo_get {w : List Int} {i k m : Nat} (hk : k < m) : (rowTo w i m).getD k 0 = ent w i k := by
  unfold rowTo
  rw [List.getD_eq_getElem?_getD, List.getElem?_eq_getElem (by simpa using hk)]; simp
end Go.Proofs.Ytnlhhbnoccobmaa.Pure
end
section
namespace Go.Proofs.Ytnlhhbnoccobmaa.Mem
open Go.RowKit Go.Proofs.YtnlhhbnoccobmaaW.PrintWords Go.Proofs.YtnlhhbnoccobmaaW.PrintLast
theorem nums_get (xs : List Int) (j : Nat) (h : j < xs.length) : (nums .i64 xs).toArray[j]? = some (.int .i64 (xs.getD j 0)) := by
  simp [nums, List.getElem?_eq_getElem h, List.getD_eq_getElem?_getD]
theorem nums_set (xs : List Int) (j : Nat) (x : Int) : (nums .i64 xs).toArray.setIfInBounds j (.int .i64 x) = (nums .i64 (xs.set j x)).toArray := by
  simp [nums, List.map_set]
theorem grown_refl (w : World) (row : Option Nat) : w.grownBy w row := ⟨rfl, rfl, rfl, Nat.le_refl _, fun _ _ _ => rfl⟩
theorem grown_trans {w w1 w2 : World} {row : Option Nat} (h : w.grownBy w1 row) (g : w1.grownBy w2 row) : w.grownBy w2 row :=
  ⟨g.os.trans h.os, g.tape.trans h.tape, g.output.trans h.output, Nat.le_trans h.size g.size, fun k hk hr => (g.block k (Nat.lt_of_lt_of_le hk h.size) hr).trans (h.block k hk hr)⟩
theorem grown_set {w w1 : World} {B : Nat} (h : w.grownBy w1 (some B)) (i : Nat) (u : Value) : w.grownBy (w1.setCell ⟨B, i, none⟩ u) (some B) :=
  ⟨h.os, h.tape, h.output, by simpa [World.setCell] using h.size, fun k hk hr => (Below.heap_setCell w1 ⟨B, i, none⟩ u k (fun e => hr (by rw [e]))).trans (h.block k hk hr)⟩
theorem grown_alloc {w w1 : World} {row : Option Nat} (h : w.grownBy w1 row) (o : Obj) : w.grownBy (w1.alloc o) row := grown_trans h (World.grownBy_alloc w1 o row)
theorem grown_drewN {w w1 : World} {row : Option Nat} (h : w.grownBy w1 row) (n : Nat) : w.grownBy (w1.drewN n) row := ⟨h.os, h.tape, h.output, h.size, h.block⟩
theorem grown_drew {w w1 : World} {row : Option Nat} (h : w.grownBy w1 row) : w.grownBy w1.drew row := ⟨h.os, h.tape, h.output, h.size, h.block⟩
theorem grown_below {w w1 : World} (h : w.grownBy w1 none) : Below w.heap.size w w1 := ⟨h.os, h.tape, h.output, h.size, fun k hk => h.block k hk (by simp)⟩
theorem gb_of_below {w w1 : World} (h : Below w.heap.size w w1) (row : Option Nat) : w.grownBy w1 row := ⟨h.os, h.tape, h.output, h.size, fun k hk _ => h.block k hk⟩
theorem grown_of_none {w w1 : World} (h : w.grownBy w1 none) (row : Option Nat) : w.grownBy w1 row := gb_of_below (grown_below h) row
theorem below_grown {w0 w w1 : World} {B : Nat} (h : Below w0.heap.size w0 w) (g : w.grownBy w1 (some B)) (hB : w0.heap.size ≤ B) : Below w0.heap.size w0 w1 :=
  h.grown g h.size (fun k hk => by injection hk with hk; omega)
theorem cell_of_C {w : World} {A : Option Addr} {n : Nat} {xs : List Int} (h : Kd.C (Kd.int .i64) w A n xs) (j : Nat) (hj : j < n) : ∃ ad, A = some ad ∧ w.cell? (ad.add j) = some (.int .i64 (xs.getD j 0)) := by
  obtain ⟨hl, _, hc⟩ := h
  obtain ⟨ad, e, hc⟩ := hc (by omega)
  have hjl : j < xs.length := by omega
  obtain ⟨c, hc1, hc2, hc3⟩ := hc j _ (List.getElem?_eq_getElem hjl)
  refine ⟨ad, e, ?_⟩
  have hc2' : c = [.int .i64 xs[j]] := hc2
  have := hc3 0 _ (by rw [hc2']; rfl)
  rw [show (Kd.int .i64).sz = 1 from rfl, Nat.mul_one, Nat.add_zero] at this
  rw [this, List.getD_eq_getElem?_getD, List.getElem?_eq_getElem hjl]; rfl
theorem F_of_C {w : World} {A : Option Addr} {n : Nat} {xs : List Int} (h : Kd.C (Kd.int .i64) w A n xs) : Kd.F (Kd.int .i64) w (fun k => k < w.heap.size) A n xs := by
  intro W' hW
  obtain ⟨hl, hm, hc⟩ := h
  refine ⟨hl, hm, fun hn => ?_⟩
  obtain ⟨ad, e, hc⟩ := hc hn
  refine ⟨ad, e, fun j p hj => ?_⟩
  obtain ⟨c, hc1, hc2, hc3⟩ := hc j p hj
  refine ⟨c, hc1, hc2, fun i u hu => ?_⟩
  have hcell := hc3 i u hu
  have hlt := World.block_lt_of_cell? w _ hcell
  rw [World.cell?_of_block (w := w) (hW _ hlt hlt)]; exact hcell
theorem reps_nums {w : World} {base : Nat} {ok : Nat → Prop} (xs : List Int) : Reps ((Kd.int .i64).M w base ok) 1 xs (nums .i64 xs) := by
  refine ⟨by simp [nums], fun j p hj => ?_⟩
  show ((nums .i64 xs).drop (j * 1)).take 1 = [.int .i64 p]
  have hj' := List.getElem?_eq_some_iff.1 hj
  rw [Nat.mul_one, List.drop_eq_getElem_cons (by simp [nums]; exact hj'.1)]
  simp [nums, hj'.2]
theorem R_of_block {w : World} {B m : Nat} {xs : List Int} {e : Nat} (hb : w.heap[B]? = some (.cells (nums .i64 xs).toArray e (0, 0))) (hl : xs.length = m) (hm : m ≤ maxLen) {base : Nat} (hbase : base ≤ B) :
    Kd.R (Kd.int .i64) e w base (fun _ => True) (.slice (some ⟨B, 0, none⟩) m m) xs := by
  refine ⟨fun _ _ => trivial, nums .i64 xs, ⟨?_, .inr ⟨B, m, _, by rw [hl], hbase, hb, by omega, hm, ?_, ?_⟩⟩, ?_⟩
  · show _ = xs.length * 1
    simp [nums]
  · show _ = m * 1
    simp [nums, hl]
  · show List.take (xs.length * 1) _ = _
    rw [Nat.mul_one]
    exact List.take_of_length_le (by simp [nums])
  · exact reps_nums xs
theorem C_none {w : World} {A : Option Addr} {n : Nat} {xs : List Int} (h : Kd.C (Kd.int .i64) w A n xs) (e : A = none) : n = 0 ∧ n = 0 := by
  rcases Nat.eq_zero_or_pos n with h0 | h0
  · exact ⟨h0, h0⟩
  · obtain ⟨ad, he, _⟩ := h.2.2 h0
    rw [e] at he; cases he
theorem C_cells {w : World} {A : Option Addr} {n : Nat} {xs : List Int} (h : Kd.C (Kd.int .i64) w A n xs) (b : Addr) (e : A = some b) (j : Nat) (u : Value) (hu : (nums .i64 xs)[j]? = some u) : w.cell? (b.add j) = some u := by
  have hj := (List.getElem?_eq_some_iff.1 hu)
  obtain ⟨hj, hv⟩ := hj
  have hj' : j < xs.length := by simpa [nums] using hj
  obtain ⟨ad, he, hc⟩ := cell_of_C h j (by have := h.1; omega)
  rw [e] at he
  injection he with he
  subst he
  rw [hc, ← hv, List.getD_eq_getElem?_getD, List.getElem?_eq_getElem hj']
  simp [nums]
theorem R_of_block_ok {w : World} {B m : Nat} {xs : List Int} {e : Nat} (hb : w.heap[B]? = some (.cells (nums .i64 xs).toArray e (0, 0))) (hl : xs.length = m) (hm : m ≤ maxLen) {base : Nat} (hbase : base ≤ B) (ok : Nat → Prop) (hok : ok B) :
    Kd.R (Kd.int .i64) e w base ok (.slice (some ⟨B, 0, none⟩) m m) xs := by
  obtain ⟨_, inner, ho, _⟩ := R_of_block hb hl hm hbase
  have hi : inner = nums .i64 xs := by
    obtain ⟨h1, h2⟩ := ho
    rcases h2 with ⟨h3, _⟩ | ⟨g, cap, cur, h3, _, h4, _, _, _, h5⟩
    · exact absurd h3 (by simp)
    · injection h3 with h3 _ _
      injection h3 with h3
      injection h3 with h3 _ _
      subst h3
      rw [hb] at h4
      injection h4 with h4
      injection h4 with h4 _ _
      rw [← h5, ← h4]
      exact List.take_of_length_le (by simp [nums]; show xs.length ≤ xs.length * 1; omega)
  subst hi
  exact ⟨fun k hk => by simp [Value.ownBlock] at hk; rw [← hk]; exact hok, nums .i64 xs, ho, reps_nums xs⟩
theorem R_of_own {w : World} {base e : Nat} {v : Value} {xs : List Int} (h : w.ownsRow base e 1 v xs.length (nums .i64 xs)) : Kd.R (Kd.int .i64) e w base (fun k => base ≤ k) v xs :=
  ⟨fun k hk => own_base h k hk, nums .i64 xs, h, reps_nums xs⟩
section
variable {P : Program} {ops : Array Oper} {Q : Exit → Act → World → Prop}
theorem step_append_full {o : Oper} {a : Act} {w : World} {K : Act → World → Prop} {E : Prop} (hg : o.guard = none) (s x : Operand) (t e : TypeId)
    (hop : o.op = Op.call { callee := Callee.builtin Builtin.append, args := #[s, x], argTypes := #[t, t] }) (ht : P.underlying t = some (.slice e)) (hinfo : (P.info? e).map (fun i => (i.zero, i.size, i.bytes)) = some (some (.int .i64 0), 1, 8))
    (A : Option Addr) (n m B : Nat) (xs news : List Int) (hs : a.eval s = .slice A n n) (hx : a.eval x = .slice (some ⟨B, 0, none⟩) m m) (hC : Kd.C (Kd.int .i64) w A n xs) (hB : w.heap[B]? = some (.cells (nums .i64 news).toArray e (0, 0))) (hm : news.length = m) (h0 : 0 < m) (hl : n + m ≤ 17592186044416)
    (hK : ∀ v' w', Kd.R (Kd.int .i64) e w' w.heap.size (fun k => w.heap.size ≤ k) v' (xs ++ news) → w.grownBy w' none → K (a.put o.dst v') w') :
    if Region.wanted o (yielded ops a.tmps) = true then Oper.wp P o a w K Q else E := by
  obtain ⟨i0, hi, hzz⟩ := Option.map_eq_some_iff.1 hinfo
  simp only [Prod.mk.injEq] at hzz
  obtain ⟨hz0, hz1, hz2⟩ := hzz
  have hxl : xs.length = n := hC.1
  refine step_append_grows hg s x t hop e i0 (.int .i64 0) 1 8 ht hi hz0 hz1 hz2 rfl (by decide) A n n (nums .i64 xs) hs (C_none hC) (by simp [nums, hxl]) (C_cells hC) ⟨B, 0, none⟩ m m (nums .i64 news) hx (by simp [nums, hm]) (World.news_of_block hB) (by simp [nums]; intro y _; rfl) (by omega) (by unfold maxLen; omega) (by omega) ?_
  intro v' w' hown hgr
  refine hK v' w' (R_of_own ?_) hgr
  rw [show nums .i64 (xs ++ news) = nums .i64 xs ++ nums .i64 news from by simp [nums], List.length_append, hxl, hm]; exact hown
theorem callv_ {oi : Oper} {N : Option Tmp} {a : Act} {w : World} {K : Act → World → Prop} {f : FuncId} {fn : Func} {x : Operand} {as_ : Array Operand} {ts : Array TypeId} (hf : P.funcs[f]? = some fn) (hname : (fn.name == "runtime.NumGoroutine") = false) (hb : fn.body.isSome = true) (cap args all : Array Value)
    (hw : Region.wanted oi (yielded ops a.tmps) = true) (hN : oi.dst = N) (hop : oi.op = .call { callee := .value x, args := as_, argTypes := ts }) (hx : a.eval x = .func (.func f) #[] cap) (hargs : as_.map a.eval = args) (hall : args ++ cap = all)
    (h : Calls P f all w fun e w' => ∃ v, e = .returned v ∧ K (a.put N v) w') : if Region.wanted oi (yielded ops a.tmps) = true then Oper.wp P oi a w K Q else K (a.put N undef) w := by
  subst hall
  refine call_ f (args ++ cap) hw hN ?_ h
  have he := enters_ hf hname hb (args ++ cap) w
  unfold execOp
  simp [hop, resolve, hx, Deferred.ofValue, invoke, hargs, he]
end
theorem new_at {w : World} {o : Obj} {B : Nat} (h : B = w.heap.size) : (w.alloc o).heap[B]? = some o := by subst h; exact blk_new w o
theorem cell1 {w : World} {B t : Nat} {v : Value} (h : w.heap[B]? = some (.cells #[v] t (0, 0))) : w.cell? ⟨B, 0, none⟩ = some v := (blk_cell h 0).trans rfl
theorem made_nums (m : Nat) : madeCells (Value.cells (.int .i64 0)) m = (nums .i64 (List.replicate m 0)).toArray := by
  apply Array.ext
  · rw [size_madeCells]; simp [nums]
  · intro j h1 h2
    have hj : j < m := by rw [size_madeCells] at h1; exact h1
    simp [madeCells, nums, Value.cells, Nat.mod_one]
theorem make_ints {P : Program} {t e : TypeId} (ht : P.underlying t = some (.slice e)) (hinfo : (P.info? e).map (fun i => (i.zero, i.size, i.bytes)) = some (some (.int .i64 0), 1, 8)) (x : Int) (m : Nat) (hx : x = (m : Int)) (hm : m ≤ 35184372088832) (W : World) :
    (Instr.makeSlice t (.int .i64 x) (.int .i64 x)).run P W = .ok (.slice (some ⟨W.heap.size, 0, none⟩) m m) (W.alloc (.cells (nums .i64 (List.replicate m 0)).toArray e)) := by
  subst hx
  obtain ⟨i0, hi, hzz⟩ := Option.map_eq_some_iff.1 hinfo
  simp only [Prod.mk.injEq] at hzz
  obtain ⟨hz0, hz1, hz2⟩ := hzz
  have h := run_make (P := P) W t e i0 (.int .i64 0) ht hi hz0 .i64 .i64 m m (by omega) (Int.le_refl _) (by rw [hz2]; omega) (by omega)
  rw [h, Int.toNat_natCast, hz1, Nat.mul_one, made_nums]
def ints (l : List Nat) : List Int := l.map fun i : Nat => (i : Int)
theorem ints_len (l : List Nat) : (ints l).length = l.length := by simp [ints]
theorem ints_app (l m : List Nat) : ints (l ++ m) = ints l ++ ints m := by simp [ints]
theorem ints_getD (l : List Nat) (j : Nat) (h : j < l.length) : (ints l).getD j 0 = ((l.getD j 0 : Nat) : Int) := by
  unfold ints
  rw [List.getD_eq_getElem?_getD, List.getD_eq_getElem?_getD, List.getElem?_map, List.getElem?_eq_getElem h]; rfl
theorem calls_len0 {P : Program} {f : FuncId} {A : Option Addr} {m m' c : Nat} {w : World} {Q : Ending → World → Prop} (h : m' = m) (hc : Calls P f #[.slice A m' c] w Q) : Calls P f #[.slice A m c] w Q := h ▸ hc
end Go.Proofs.Ytnlhhbnoccobmaa.Mem
end
section
namespace Go.Proofs.Ytnlhhbnoccobmaa.Pure
def idxF (P : Nat → Bool) : List Nat → Nat → Int
  | [], _ => -1
  | r :: t, n => if P r = true then n else idxF P t (n + 1)
theorem idxF_ge (P : Nat → Bool) : ∀ (l : List Nat) (n : Nat), decide (0 ≤ idxF P l n) = l.any P
  | [], n => by simp [idxF]
  | r :: t, n => by
    rw [idxF, List.any_cons]
    by_cases h : P r = true
    · rw [if_pos h, h, Bool.true_or]; simp
    · rw [if_neg h, show P r = false from by simpa using h, Bool.false_or]; exact idxF_ge P t (n + 1)
theorem idxF_skip {P : Nat → Bool} {l : List Nat} : ∀ n : Nat, n ≤ l.length → (l.take n).any P = false → idxF P l 0 = idxF P (l.drop n) n
  | 0, _, _ => rfl
  | n + 1, hn, h => by
    rw [List.take_succ_eq_append_getElem (by omega), List.any_append, Bool.or_eq_false_iff] at h
    rw [idxF_skip n (by omega) h.1, List.drop_eq_getElem_cons (by omega), idxF, if_neg (by simpa using h.2)]
end Go.Proofs.Ytnlhhbnoccobmaa.Pure
end
section
namespace Go.Proofs.Ytnlhhbnoccobmaa.Mem
open Go.RowKit Go.Proofs.YtnlhhbnoccobmaaW.PrintWords Go.Proofs.YtnlhhbnoccobmaaW.PrintLast
theorem cells_of_F {α : Type} {d : Kd α} (hd : d.sz = 1) {ok : Nat → Prop} {w : World} {A : Option Addr} {n : Nat} {xs : List α} (h : Kd.F d w ok A n xs) :
    ∃ vs : List Value, vs.length = n ∧ (A = none → n = 0 ∧ n = 0) ∧ (∀ b, A = some b → ∀ j u, vs[j]? = some u → w.cell? (b.add j) = some u) ∧ Reps (Kd.FK d w ok) d.sz xs vs := by
  obtain ⟨hl, _, hc⟩ := Kd.F_rows h
  rcases Nat.eq_zero_or_pos n with h0 | hp
  · subst h0
    have hx : xs = [] := List.eq_nil_of_length_eq_zero hl
    subst hx
    exact ⟨[], rfl, fun _ => ⟨rfl, rfl⟩, fun b _ j u hu => by simp at hu, Reps.none _ _⟩
  · obtain ⟨ad, rfl, hc2⟩ := hc hp
    have hcell : ∀ j p, xs[j]? = some p → ∃ u, Kd.FK d w ok p [u] ∧ w.cell? (ad.add j) = some u := fun j p hj => by
      obtain ⟨c, hcl, hk, hcc⟩ := hc2 j p hj
      rw [hd] at hcl
      obtain ⟨u, rfl⟩ := List.length_eq_one_iff.1 hcl
      have := hcc 0 u rfl
      rw [hd, Nat.mul_one, Nat.add_zero] at this
      exact ⟨u, hk, this⟩
    refine ⟨(List.range n).map fun j => (w.cell? (ad.add j)).getD undef, by simp, (fun e => by cases e), fun b hb j u hu => ?_, by simp [hl, hd], fun j p hj => ?_⟩
    · cases hb
      rw [List.getElem?_map] at hu
      obtain ⟨j', hj', rfl⟩ := Option.map_eq_some_iff.1 hu
      obtain ⟨hjn, e⟩ := List.getElem?_eq_some_iff.1 hj'
      rw [List.getElem_range] at e
      subst e
      rw [List.length_range] at hjn
      obtain ⟨u, _, hu⟩ := hcell j _ (List.getElem?_eq_getElem (by omega))
      rw [hu]; rfl
    · have hjn : j < n := by have := (List.getElem?_eq_some_iff.1 hj).1; omega
      obtain ⟨u, hk, hu⟩ := hcell j p hj
      rw [hd, Nat.mul_one]
      have : (((List.range n).map fun j => (w.cell? (ad.add j)).getD undef).drop j).take 1 = [u] := by
        rw [List.drop_eq_getElem_cons (by simpa using hjn)]
        simp [hu]
      rw [this]; exact hk
section
variable {P : Program} {ops : Array Oper} {Q : Exit → Act → World → Prop}
theorem step_append_full_rows {o : Oper} {a : Act} {w : World} {K : Act → World → Prop} {E : Prop} {α : Type} (d : Kd α) (hd : d.sz = 1) (hg : o.guard = none) (s x : Operand) (t e : TypeId) (z : Value) (bytes : Nat)
    (hop : o.op = Op.call { callee := Callee.builtin Builtin.append, args := #[s, x], argTypes := #[t, t] }) (ht : P.underlying t = some (.slice e)) (hinfo : (P.info? e).map (fun i => (i.zero, i.size, i.bytes)) = some (some z, 1, bytes)) (hz : z.cells.size = 1)
    (ok : Nat → Prop) (A : Option Addr) (n B : Nat) (xs : List α) (p : α) (c : Value) (hs : a.eval s = .slice A n n) (hx : a.eval x = .slice (some ⟨B, 0, none⟩) 1 1) (hF : Kd.F d w ok A n xs) (hB : w.heap[B]? = some (.cells #[c] e (0, 0))) (hp : Kd.FK d w ok p [c])
    (hl : n + 1 ≤ 17592186044416) (hl2 : (n + 1) * bytes ≤ 140737488355328)
    (hK : ∀ v' w', Kd.N d e w' w.heap.size (fun k => ok k ∨ w.heap.size ≤ k) v' (xs ++ [p]) → w.grownBy w' none → K (a.put o.dst v') w') :
    if Region.wanted o (yielded ops a.tmps) = true then Oper.wp P o a w K Q else E := by
  obtain ⟨i0, hi, hzz⟩ := Option.map_eq_some_iff.1 hinfo
  simp only [Prod.mk.injEq] at hzz
  obtain ⟨hz0, hz1, hz2⟩ := hzz
  obtain ⟨vs, hvl, hnone, hcells, hreps⟩ := cells_of_F hd hF
  have hxl : xs.length = n := (Kd.F_rows hF).1
  have hr2 : Reps (Kd.FK d w ok) d.sz (xs ++ [p]) (vs ++ [c]) := hreps.snoc hp (by rw [hd]; rfl)
  refine step_append_grows hg s x t hop e i0 z 1 bytes ht hi hz0 hz1 hz2 hz (by decide) A n n vs hs hnone (by omega) hcells ⟨B, 0, none⟩ 1 1 [c] hx rfl (World.news_of_block hB) (fun u hu => by rw [List.mem_singleton] at hu; rw [hu]; exact d.K_one (Kd.FK_now hp) c List.mem_cons_self) (by omega) (by unfold maxLen; omega) hl2 ?_
  intro v' w' hown hgr
  refine hK v' w' ?_ hgr
  have hlen : (xs ++ [p]).length = n + 1 := by rw [List.length_append, hxl]; rfl
  have hown2 : w'.ownsRow w.heap.size e d.sz v' (xs ++ [p]).length (vs ++ [c]) := by rw [hd, hlen]; exact hown
  refine ⟨fun k hk => .inr (own_base hown k hk), Kd.chunks d.sz (xs ++ [p]).length (vs ++ [c]), Kd.chunks_length _ _ _, ⟨fun k hk => hk.symm, vs ++ [c], by rw [Kd.chunks_length]; exact hown2, Kd.reps_raw hr2 (fun y q hk => ⟨d.K_len (Kd.FK_now hk), d.K_one (Kd.FK_now hk)⟩)⟩, fun j y q hy hq => ?_⟩
  rw [Kd.chunks_get hq]
  refine Kd.FK_mono (Kd.FK_step (Kd.FK_bound (hr2.2 j y hy)) (fun k hk hlt => hgr.block k hlt (by simp))) (fun k hk => ⟨.inl hk.1, fun he => ?_⟩)
  have := own_base hown k he.symm
  have := hk.2
  omega
end
theorem calls_args {P : Program} {f : FuncId} {as_ as' : Array Value} {w : World} {Q : Ending → World → Prop} (h : as' = as_) (hc : Calls P f as' w Q) : Calls P f as_ w Q := h ▸ hc
theorem grown_put_new {w w1 : World} {row : Option Nat} {g : Nat} (h : w.grownBy w1 row) (hg : w.heap.size ≤ g) (i : Nat) (u : Value) : w.grownBy (w1.setCell ⟨g, i, none⟩ u) row :=
  ⟨h.os, h.tape, h.output, by simpa [World.setCell] using h.size, fun k hk hr => (Below.heap_setCell w1 ⟨g, i, none⟩ u k (fun e => by simp at e; omega)).trans (h.block k hk hr)⟩
section
variable {α : Type} {d : Kd α} {e base n cap g : Nat} {ok okp : Nat → Prop} {w : World} {v : Value} {xs : List α}
theorem N_head (h : Kd.N d e w base ok v xs) (hp : 0 < xs.length) : ∃ g c, v = .slice (some ⟨g, 0, none⟩) xs.length c ∧ xs.length ≤ c ∧ base ≤ g ∧ g < w.heap.size ∧ ok g := by
  obtain ⟨A, c, rfl⟩ := Kd.N_slice h
  have hr := Kd.N_reads' h
  obtain ⟨ad, rfl, _⟩ := hr.2.2.2.2 hp
  obtain ⟨g, rfl⟩ : ∃ g, ad = ⟨g, 0, none⟩ := by
    obtain ⟨_, rows, _, hR, _⟩ := h
    exact Kd.R_head hR
  have hb : (Value.slice (some ⟨g, 0, none⟩) xs.length c).ownBlock = some g := by simp [Value.ownBlock]
  exact ⟨g, c, rfl, hr.2.1, Kd.N_base h g hb, Kd.N_lt h g hb, h.1 g hb⟩
theorem N_cell (h : Kd.N d e w base ok (.slice (some ⟨g, 0, none⟩) n cap) xs) (hd : d.sz = 1) (j : Nat) (hj : j < n) : ∃ u, w.cell? ⟨g, j, none⟩ = some u ∧ w.frozen? ⟨g, j, none⟩ = false := by
  have hn := (Kd.N_reads' h).1
  obtain ⟨c, hcl, _, hcc, hfr⟩ := Kd.N_elem h (xs[j]'(by omega)) (j : Int) (by omega) (by omega)
  rw [hd] at hcl
  obtain ⟨u, rfl⟩ := List.length_eq_one_iff.1 hcl
  have h1 := hcc 0 u rfl
  have h2 := hfr 0
  rw [hd, Nat.mul_one, Nat.add_zero, Int.toNat_natCast] at h1 h2
  exact ⟨u, h1, h2⟩
theorem N_put (h : Kd.N d e w base ok (.slice (some ⟨g, 0, none⟩) n cap) xs) (hd : d.sz = 1) (j : Nat) (hj : j < n) (x' : α) (u : Value) (hK : Kd.FK d w okp x' [u]) (hokp : ∀ k, okp k → ok k ∧ k ≠ g) :
    Kd.N d e (w.setCell ⟨g, j, none⟩ u) base ok (.slice (some ⟨g, 0, none⟩) n cap) (xs.set j x') := by
  have hn := (Kd.N_reads' h).1
  obtain ⟨c, hcl, _, hcc, _⟩ := Kd.N_elem h (xs[j]'(by omega)) (j : Int) (by omega) (by omega)
  have hcl1 : c.length = 1 := by rw [hcl, hd]
  have := (Kd.N_seg h (j : Int) (by omega) (by omega) (c := c) (seg := [u]) (j := 0) hcl hcc (by rw [hd]; simp) (x' := x') (okp := okp) (by
    rw [List.take_zero, List.nil_append, List.drop_of_length_le (by rw [hcl1]; simp), List.append_nil]; exact hK) hokp).1
  rw [hd, Nat.mul_one, Nat.add_zero, Int.toNat_natCast] at this
  exact this
end
theorem F_of_block {w : World} {B m e : Nat} {xs : List Int} (hb : w.heap[B]? = some (.cells (nums .i64 xs).toArray e (0, 0))) (hl : xs.length = m) (hm : m ≤ maxLen) {ok : Nat → Prop} (hok : ok B) : Kd.F (Kd.int .i64) w ok (some ⟨B, 0, none⟩) m xs := by
  have := Kd.R_F (R_of_block_ok hb hl hm (Nat.zero_le _) ok hok)
  exact this
end Go.Proofs.Ytnlhhbnoccobmaa.Mem
end
section
namespace Go.Proofs.Ytnlhhbnoccobmaa.Chrom
def sumR (f : Nat → Int) : Nat → Int
  | 0 => 0
  | n + 1 => sumR f n + f n
theorem sumR_congr {f g : Nat → Int} : ∀ n, (∀ x, x < n → f x = g x) → sumR f n = sumR g n
  | 0, _ => rfl
  | n + 1, h => by rw [sumR, sumR, sumR_congr n (fun x hx => h x (by omega)), h n (by omega)]
theorem sumR_add (f g : Nat → Int) : ∀ n, sumR (fun x => f x + g x) n = sumR f n + sumR g n
  | 0 => rfl
  | n + 1 => by rw [sumR, sumR, sumR, sumR_add f g n]; omega
theorem sumR_sub (f g : Nat → Int) : ∀ n, sumR (fun x => f x - g x) n = sumR f n - sumR g n
  | 0 => rfl
  | n + 1 => by rw [sumR, sumR, sumR, sumR_sub f g n]; omega
theorem sumR_zero {f : Nat → Int} : ∀ n, (∀ x, x < n → f x = 0) → sumR f n = 0
  | 0, _ => rfl
  | n + 1, h => by rw [sumR, sumR_zero n (fun x hx => h x (by omega)), h n (by omega)]; rfl
theorem sumR_const (c : Int) : ∀ n : Nat, sumR (fun _ => c) n = n * c
  | 0 => by simp [sumR]
  | n + 1 => by rw [sumR, sumR_const c n, Int.natCast_add, Int.add_mul]; simp
theorem sumR_one {f : Nat → Int} {a : Nat} : ∀ n, a < n → (∀ x, x < n → x ≠ a → f x = 0) → sumR f n = f a
  | 0, h, _ => absurd h (Nat.not_lt_zero _)
  | n + 1, h, h0 => by
    rw [sumR]
    by_cases e : a = n
    · rw [sumR_zero n (fun x hx => h0 x (by omega) (by omega)), e]; omega
    · rw [sumR_one n (by omega) (fun x hx hne => h0 x (by omega) hne), h0 n (by omega) (Ne.symm e)]; omega
def sumL {α : Type} (f : α → Int) : List α → Int
  | [] => 0
  | a :: l => f a + sumL f l
theorem sumL_congr {α : Type} {f g : α → Int} : ∀ l : List α, (∀ x, x ∈ l → f x = g x) → sumL f l = sumL g l
  | [], _ => rfl
  | a :: l, h => by rw [sumL, sumL, h a List.mem_cons_self, sumL_congr l (fun x hx => h x (List.mem_cons_of_mem _ hx))]
theorem sumL_map {α β : Type} (g : β → α) (f : α → Int) : ∀ l : List β, sumL f (l.map g) = sumL (fun x => f (g x)) l
  | [] => rfl
  | a :: l => by rw [List.map_cons, sumL, sumL, sumL_map g f l]
theorem sumR_pick (k : Nat) : ∀ (cols : List Nat) (f : Nat → Int), cols.Nodup → (∀ x ∈ cols, x < k) → (∀ x, x < k → x ∉ cols → f x = 0) → sumR f k = sumL f cols
  | [], f, _, _, h => sumR_zero k (fun x hx => h x hx (by simp))
  | a :: l, f, hd, hk, h => by
    have hd' := List.nodup_cons.1 hd
    have h1 : sumR f k = sumR (fun x => (if x = a then 0 else f x) + (if x = a then f x else 0)) k := sumR_congr k fun x _ => by split <;> omega
    rw [h1, sumR_add, sumR_one (f := fun x => if x = a then f x else 0) (a := a) k (hk a List.mem_cons_self) (fun x _ hx => if_neg hx), if_pos rfl]
    rw [sumR_pick k l (fun x => if x = a then 0 else f x) hd'.2 (fun x hx => hk x (List.mem_cons_of_mem _ hx)) (fun x hx hn => by
      by_cases e : x = a
      · exact if_pos e
      · show (if x = a then 0 else f x) = 0
        rw [if_neg e]; exact h x hx (fun hm => by rcases List.mem_cons.1 hm with g | g <;> contradiction))]
    rw [sumL, sumL_congr l (g := f) (fun x hx => if_neg fun (e : x = a) => hd'.1 (e ▸ hx))]
    omega
theorem sumR_split (k : Nat) (cols : List Nat) (f : Nat → Int) (h0 : Int) (hd : cols.Nodup) (hk : ∀ x ∈ cols, x < k) (h : ∀ x, x < k → x ∉ cols → f x = h0) : sumR f k = sumL f cols + ((k : Int) - cols.length) * h0 := by
  have e : sumR f k = sumR (fun x => (f x - h0) + h0) k := sumR_congr k fun x _ => by omega
  rw [e, sumR_add (fun x => f x - h0) (fun _ => h0), sumR_const, sumR_pick k cols (fun x => f x - h0) hd hk (fun x hx hn => by show f x - h0 = 0; rw [h x hx hn]; omega)]
  have g : ∀ l : List Nat, sumL (fun x => f x - h0) l = sumL f l - l.length * h0 := by
    intro l
    induction l with
    | nil => simp [sumL]
    | cons a l ih => rw [sumL, sumL, ih, List.length_cons, Int.natCast_add, Int.add_mul]; omega
  rw [g, Int.sub_mul]; omega
def tot (k : Nat) (W : List Nat → Int) : Nat → List Nat → Int
  | 0, c => W c
  | d + 1, c => sumR (fun x => tot k W d (c ++ [x])) k
theorem tot_congr {k : Nat} {W V : List Nat → Int} : ∀ (d : Nat) (c : List Nat), (∀ e : List Nat, e.length = d → (∀ x ∈ e, x < k) → W (c ++ e) = V (c ++ e)) → tot k W d c = tot k V d c
  | 0, c, h => by have := h [] rfl (by simp); rw [List.append_nil] at this; exact this
  | d + 1, c, h => by
    rw [tot, tot]
    refine sumR_congr k fun x hx => tot_congr d _ fun e he hk => ?_
    rw [List.append_assoc]
    exact h ([x] ++ e) (by rw [List.length_append, he, List.length_singleton]; omega) (fun y hy => by
      rcases List.mem_append.1 hy with g | g
      · rw [List.mem_singleton] at g; omega
      · exact hk y g)
theorem tot_sub (k : Nat) (W V : List Nat → Int) : ∀ (d : Nat) (c : List Nat), tot k (fun c => W c - V c) d c = tot k W d c - tot k V d c
  | 0, _ => rfl
  | d + 1, c => by
    rw [tot, tot, tot, ← sumR_sub]
    exact sumR_congr k fun x _ => tot_sub k W V d _
theorem tot_zero (k : Nat) (W : List Nat → Int) : ∀ (d : Nat) (c : List Nat), (∀ e : List Nat, e.length = d → W (c ++ e) = 0) → tot k W d c = 0
  | 0, c, h => by have := h [] rfl; rw [List.append_nil] at this; exact this
  | d + 1, c, h => by
    rw [tot]
    refine sumR_zero k fun x _ => tot_zero k W d _ fun e he => ?_
    rw [List.append_assoc]
    exact h ([x] ++ e) (by rw [List.length_append, he, List.length_singleton]; omega)
def at_ (c : List Nat) (v : Nat) : Nat := c.getD v 0
theorem at_app {c e : List Nat} {v : Nat} (h : v < c.length) : at_ (c ++ e) v = at_ c v := by
  unfold at_; rw [List.getD_eq_getElem?_getD, List.getElem?_append_left h, ← List.getD_eq_getElem?_getD]
theorem at_last (c e : List Nat) (x : Nat) : at_ (c ++ x :: e) c.length = x := by
  unfold at_; rw [List.getD_eq_getElem?_getD, List.getElem?_append_right (Nat.le_refl _)]; simp
theorem at_mem {c : List Nat} {v : Nat} (h : v < c.length) : at_ c v ∈ c := by
  unfold at_; rw [List.getD_eq_getElem?_getD, List.getElem?_eq_getElem h]; exact List.getElem_mem h
structure Lab (r : Nat → Nat) : Prop where
  le : ∀ v, r v ≤ v
  idem : ∀ v, r (r v) = r v
theorem Lab.id : Lab id := ⟨fun _ => Nat.le_refl _, fun _ => rfl⟩
def merge (r : Nat → Nat) (e : Nat × Nat) : Nat → Nat := fun v => if r v = max (r e.1) (r e.2) then min (r e.1) (r e.2) else r v
theorem min_is (a b : Nat) : min a b = a ∨ min a b = b := by omega
theorem max_is (a b : Nat) : max a b = a ∨ max a b = b := by omega
theorem Lab.merge {r : Nat → Nat} (h : Lab r) (e : Nat × Nat) : Lab (merge r e) := by
  have hm : r (min (r e.1) (r e.2)) = min (r e.1) (r e.2) := by
    rcases min_is (r e.1) (r e.2) with g | g <;> rw [g] <;> exact h.idem _
  refine ⟨fun v => ?_, fun v => ?_⟩
  · have := h.le v
    unfold Chrom.merge; split <;> omega
  · unfold Chrom.merge
    by_cases g : r v = max (r e.1) (r e.2)
    · rw [if_pos g, hm]; split <;> rfl
    · rw [if_neg g, h.idem, if_neg g]
def Fits (n : Nat) (r : Nat → Nat) (c : List Nat) : Prop := ∀ v, v < n → at_ c v = at_ c (r v)
theorem fits_merge {n : Nat} {r : Nat → Nat} (h : Lab r) (e : Nat × Nat) (h1 : e.1 < n) (h2 : e.2 < n) (c : List Nat) : Fits n (merge r e) c ↔ Fits n r c ∧ at_ c e.1 = at_ c e.2 := by
  have hM : r (max (r e.1) (r e.2)) = max (r e.1) (r e.2) := by
    rcases max_is (r e.1) (r e.2) with g | g <;> rw [g] <;> exact h.idem _
  have l1 := h.le e.1
  have l2 := h.le e.2
  constructor
  · intro hf
    have hMm : at_ c (max (r e.1) (r e.2)) = at_ c (min (r e.1) (r e.2)) := by
      have := hf (max (r e.1) (r e.2)) (by omega)
      unfold merge at this
      rw [if_pos hM] at this; exact this
    have hr : Fits n r c := by
      intro v hv
      have := hf v hv
      unfold merge at this
      by_cases g : r v = max (r e.1) (r e.2)
      · rw [if_pos g] at this; rw [this, g, hMm]
      · rw [if_neg g] at this; exact this
    refine ⟨hr, ?_⟩
    rw [hr e.1 h1, hr e.2 h2]
    rcases Nat.le_total (r e.1) (r e.2) with g | g
    · rw [Nat.max_eq_right g, Nat.min_eq_left g] at hMm; exact hMm.symm
    · rw [Nat.max_eq_left g, Nat.min_eq_right g] at hMm; exact hMm
  · intro ⟨hr, he⟩ v hv
    unfold merge
    have hMm : at_ c (max (r e.1) (r e.2)) = at_ c (min (r e.1) (r e.2)) := by
      rw [hr e.1 h1, hr e.2 h2] at he
      rcases Nat.le_total (r e.1) (r e.2) with g | g
      · rw [Nat.max_eq_right g, Nat.min_eq_left g]; exact he.symm
      · rw [Nat.max_eq_left g, Nat.min_eq_right g]; exact he
    by_cases g : r v = max (r e.1) (r e.2)
    · rw [if_pos g, hr v hv, g, hMm]
    · rw [if_neg g]; exact hr v hv
def Apart (E : List (Nat × Nat)) (c : List Nat) : Prop := ∀ e, e ∈ E → at_ c e.1 ≠ at_ c e.2
open Classical in
noncomputable def wt (n : Nat) (E : List (Nat × Nat)) (r : Nat → Nat) (c : List Nat) : Int := if Fits n r c ∧ Apart E c then 1 else 0
theorem wt_cons {n : Nat} {r : Nat → Nat} (h : Lab r) (e : Nat × Nat) (E : List (Nat × Nat)) (h1 : e.1 < n) (h2 : e.2 < n) (c : List Nat) : wt n (e :: E) r c = wt n E r c - wt n E (merge r e) c := by
  have hm := fits_merge h e h1 h2 c
  unfold wt
  have ha : Apart (e :: E) c ↔ at_ c e.1 ≠ at_ c e.2 ∧ Apart E c := by unfold Apart; rw [List.forall_mem_cons]
  rw [ha, hm]
  by_cases a : Fits n r c <;> by_cases b : at_ c e.1 = at_ c e.2 <;> by_cases d : Apart E c <;> simp [a, b, d]
def roots (r : Nat → Nat) (m : Nat) : Nat → Nat
  | 0 => 0
  | d + 1 => roots r (m + 1) d + (if r m = m then 1 else 0)
theorem wt_base {n k : Nat} {r : Nat → Nat} (h : Lab r) : ∀ (d : Nat) (c : List Nat), c.length + d = n → (∀ x ∈ c, x < k) → (∀ v, v < c.length → at_ c v = at_ c (r v)) → tot k (wt n [] r) d c = (k : Int) ^ roots r c.length d
  | 0, c, hl, _, hf => by
    rw [tot, roots, Int.pow_zero]
    exact if_pos ⟨fun v hv => hf v (by omega), fun e he => absurd he (by simp)⟩
  | d + 1, c, hl, hk, hf => by
    rw [tot, roots]
    have step : ∀ x, x < k → at_ (c ++ [x]) (r c.length) = x → tot k (wt n [] r) d (c ++ [x]) = (k : Int) ^ roots r (c.length + 1) d := by
      intro x hx hr
      have := wt_base (n := n) h d (c ++ [x]) (by rw [List.length_append, List.length_singleton]; omega) (fun y hy => by
        rcases List.mem_append.1 hy with g | g
        · exact hk y g
        · rw [List.mem_singleton] at g; omega) (fun v hv => by
        rw [List.length_append, List.length_singleton] at hv
        by_cases e : v = c.length
        · rw [e, at_last, hr]
        · have := h.le v
          rw [at_app (by omega), at_app (by omega)]; exact hf v (by omega))
      rw [this, List.length_append, List.length_singleton]
    by_cases e : r c.length = c.length
    · rw [if_pos e, sumR_congr k (g := fun _ => (k : Int) ^ roots r (c.length + 1) d) (fun x hx => step x hx (by rw [e, at_last])), sumR_const, Int.pow_succ, Int.mul_comm]
    · rw [if_neg e, Nat.add_zero]
      have hl := h.le c.length
      have hlt : at_ c (r c.length) < k := hk _ (at_mem (by omega))
      rw [sumR_one (a := at_ c (r c.length)) k hlt (fun x hx hne => tot_zero k _ d _ fun y hy => ?_)]
      · exact step _ hlt (by rw [at_app (by omega)])
      · refine if_neg fun hh => hne ?_
        have := hh.1 c.length (by omega)
        rw [List.append_assoc, List.singleton_append, at_last, at_app (by omega)] at this
        exact this
def subs (n : Nat) (x : Int) : List (Nat × Nat) → (Nat → Nat) → Int
  | [], r => x ^ roots r 0 n
  | e :: E, r => subs n x E r - subs n x E (merge r e)
theorem tot_subs {n k : Nat} : ∀ (E : List (Nat × Nat)) (r : Nat → Nat), Lab r → (∀ e ∈ E, e.1 < n ∧ e.2 < n) → tot k (wt n E r) n [] = subs n k E r
  | [], r, h, _ => wt_base h n [] (by simp) (by simp) (by simp)
  | e :: E, r, h, hE => by
    rw [subs, tot_congr n [] (V := fun c => wt n E r c - wt n E (merge r e) c) (fun c _ _ => wt_cons h e E (hE e List.mem_cons_self).1 (hE e List.mem_cons_self).2 _), tot_sub,
      tot_subs E r h (fun e he => hE e (List.mem_cons_of_mem _ he)), tot_subs E (merge r e) (h.merge e) (fun e he => hE e (List.mem_cons_of_mem _ he))]
def pairsOf (X : Nat → Nat → Bool) (n : Nat) : List (Nat × Nat) := (List.range n).flatMap fun i => ((List.range i).filter fun k => X i k).map fun k => (i, k)
theorem mem_pairs {X : Nat → Nat → Bool} {n : Nat} {e : Nat × Nat} : e ∈ pairsOf X n ↔ e.1 < n ∧ e.2 < e.1 ∧ X e.1 e.2 = true := by
  unfold pairsOf
  simp only [List.mem_flatMap, List.mem_map, List.mem_filter, List.mem_range]
  constructor
  · rintro ⟨i, hi, k, ⟨hk, hx⟩, rfl⟩; exact ⟨hi, hk, hx⟩
  · rintro ⟨h1, h2, h3⟩; exact ⟨e.1, h1, e.2, ⟨h2, h3⟩, rfl⟩
def okc (X : Nat → Nat → Bool) (c : List Nat) (x : Nat) : Bool := (List.range c.length).all fun v => !(X c.length v) || !(at_ c v == x)
def ext (X : Nat → Nat → Bool) (k : Nat) : Nat → List Nat → Int
  | 0, _ => 1
  | d + 1, c => sumR (fun x => if okc X c x = true then ext X k d (c ++ [x]) else 0) k
theorem okc_iff {X : Nat → Nat → Bool} {c : List Nat} {x : Nat} : okc X c x = true ↔ ∀ v, v < c.length → X c.length v = true → at_ c v ≠ x := by
  unfold okc
  simp only [List.all_eq_true, List.mem_range, Bool.or_eq_true, Bool.not_eq_true', beq_eq_false_iff_ne]
  constructor
  · intro h v hv hx
    rcases h v hv with g | g
    · rw [hx] at g; exact absurd g (by simp)
    · exact g
  · intro h v hv
    cases g : X c.length v with
    | false => exact .inl rfl
    | true => exact .inr (h v hv g)
def Good (X : Nat → Nat → Bool) (m : Nat) (c : List Nat) : Prop := ∀ i, i < m → ∀ v, v < i → X i v = true → at_ c i ≠ at_ c v
theorem tot_ext {X : Nat → Nat → Bool} {n k : Nat} : ∀ (d : Nat) (c : List Nat), c.length + d = n → Good X c.length c → tot k (wt n (pairsOf X n) id) d c = ext X k d c
  | 0, c, hl, hg => by
    rw [tot, ext]
    refine if_pos ⟨fun _ _ => rfl, fun e he => ?_⟩
    have := mem_pairs.1 he
    exact hg e.1 (by omega) e.2 this.2.1 this.2.2
  | d + 1, c, hl, hg => by
    rw [tot, ext]
    refine sumR_congr k fun x _ => ?_
    by_cases ho : okc X c x = true
    · rw [if_pos ho]
      refine tot_ext d (c ++ [x]) (by rw [List.length_append, List.length_singleton]; omega) fun i hi v hv hx => ?_
      rw [List.length_append, List.length_singleton] at hi
      by_cases e : i = c.length
      · subst e
        rw [at_last, at_app (by omega)]
        exact fun h => okc_iff.1 ho v hv hx h.symm
      · rw [at_app (by omega), at_app (by omega)]
        exact hg i (by omega) v hv hx
    · rw [if_neg ho]
      refine tot_zero k _ d _ fun y hy => if_neg fun hh => ho (okc_iff.2 fun v hv hx => ?_)
      have := hh.2 (c.length, v) (mem_pairs.2 ⟨by omega, hv, hx⟩)
      rw [List.append_assoc, List.singleton_append, at_last, at_app hv] at this
      exact fun h => this h.symm
theorem ext_subs (X : Nat → Nat → Bool) (n k : Nat) : ext X k n [] = subs n k (pairsOf X n) id := by
  rw [← tot_subs (pairsOf X n) id Lab.id (fun e he => by have := mem_pairs.1 he; omega)]
  exact (tot_ext n [] (by simp) (fun i hi => absurd hi (Nat.not_lt_zero _))).symm
def indep (X : Nat → Nat → Bool) (s : List Nat) (i : Nat) : Bool := s.all fun a => !(X i a)
def into (L : List (List Nat)) (t i : Nat) : List (List Nat) := L.set t (L.getD t [] ++ [i])
def divs (X : Nat → Nat → Bool) (k : Nat) : Nat → Nat → List (List Nat) → Int
  | 0, _, _ => 1
  | d + 1, i, L => sumL (fun t => if indep X (L.getD t []) i = true then divs X k d (i + 1) (into L t i) else 0) (List.range L.length) + ((k : Int) - L.length) * divs X k d (i + 1) (L ++ [[i]])
structure Cl (k : Nat) (c : List Nat) (L : List (List Nat)) (cols : List Nat) : Prop where
  len : cols.length = L.length
  nod : cols.Nodup
  lt : ∀ x ∈ cols, x < k
  all : ∀ v, v < c.length → at_ c v ∈ cols
  mem : ∀ t, t < L.length → ∀ v, v ∈ L.getD t [] ↔ v < c.length ∧ at_ c v = cols.getD t 0
theorem getD_set {α : Type} (L : List α) (t s : Nat) (a d : α) (hs : s < L.length) : (L.set t a).getD s d = if s = t then a else L.getD s d := by
  rw [List.getD_eq_getElem?_getD, List.getElem?_set]
  by_cases e : t = s
  · rw [if_pos e, if_pos (by omega), if_pos e.symm]; rfl
  · rw [if_neg e, if_neg (Ne.symm e), ← List.getD_eq_getElem?_getD]
theorem getD_app {α : Type} (L M : List α) (s : Nat) (d : α) (hs : s < L.length) : (L ++ M).getD s d = L.getD s d := by
  rw [List.getD_eq_getElem?_getD, List.getElem?_append_left hs, ← List.getD_eq_getElem?_getD]
theorem getD_app1 {α : Type} (L : List α) (a d : α) : (L ++ [a]).getD L.length d = a := by
  rw [List.getD_eq_getElem?_getD, List.getElem?_append_right (Nat.le_refl _)]; simp
theorem nodup_getD {cols : List Nat} (hd : cols.Nodup) {s t : Nat} (hs : s < cols.length) (ht : t < cols.length) (h : cols.getD s 0 = cols.getD t 0) : s = t := by
  rw [List.getD_eq_getElem?_getD, List.getD_eq_getElem?_getD, List.getElem?_eq_getElem hs, List.getElem?_eq_getElem ht] at h
  simp only [Option.getD_some] at h
  rw [← hd.idxOf_getElem s hs, ← hd.idxOf_getElem t ht, h]
theorem getD_mem_nat {cols : List Nat} {t : Nat} (ht : t < cols.length) : cols.getD t 0 ∈ cols := at_mem (c := cols) ht
theorem Cl.into {k : Nat} {c : List Nat} {L : List (List Nat)} {cols : List Nat} (h : Cl k c L cols) {t : Nat} (ht : t < L.length) : Cl k (c ++ [cols.getD t 0]) (into L t c.length) cols := by
  have hl := h.len
  refine ⟨by unfold Chrom.into; rw [List.length_set]; exact hl, h.nod, h.lt, fun v hv => ?_, fun s hs v => ?_⟩
  · rw [List.length_append, List.length_singleton] at hv
    by_cases e : v = c.length
    · rw [e, at_last]; exact getD_mem_nat (by omega)
    · rw [at_app (by omega)]; exact h.all v (by omega)
  · unfold Chrom.into at hs ⊢
    rw [List.length_set] at hs
    rw [getD_set _ _ _ _ _ hs, List.length_append, List.length_singleton]
    have hm := h.mem s hs v
    by_cases e : s = t
    · rw [if_pos e, List.mem_append, ← e, hm, List.mem_singleton]
      by_cases g : v = c.length
      · rw [g, at_last]; omega
      · by_cases g' : v < c.length
        · rw [at_app g']; simp only [g, or_false]; omega
        · omega
    · rw [if_neg e, hm]
      by_cases g : v = c.length
      · rw [g, at_last]
        refine ⟨fun hh => absurd hh.1 (Nat.lt_irrefl _), fun hh => absurd (nodup_getD h.nod (by omega) (by omega) hh.2) (Ne.symm e)⟩
      · by_cases g' : v < c.length
        · rw [at_app g']; omega
        · omega
theorem Cl.new {k : Nat} {c : List Nat} {L : List (List Nat)} {cols : List Nat} (h : Cl k c L cols) {x : Nat} (hx : x ∉ cols) (hk : x < k) : Cl k (c ++ [x]) (L ++ [[c.length]]) (cols ++ [x]) := by
  have hl := h.len
  refine ⟨by simp [hl], ?_, ?_, fun v hv => ?_, fun s hs v => ?_⟩
  · rw [List.nodup_append]
    exact ⟨h.nod, List.nodup_cons.2 ⟨by simp, List.nodup_nil⟩, fun a ha b hb => by rw [List.mem_singleton] at hb; subst hb; intro e; subst e; exact hx ha⟩
  · intro y hy
    rcases List.mem_append.1 hy with g | g
    · exact h.lt y g
    · rw [List.mem_singleton] at g; omega
  · rw [List.length_append, List.length_singleton] at hv
    by_cases e : v = c.length
    · rw [e, at_last]; simp
    · rw [at_app (by omega)]; exact List.mem_append_left _ (h.all v (by omega))
  · rw [List.length_append, List.length_singleton] at hs
    rw [List.length_append, List.length_singleton]
    by_cases e : s = L.length
    · rw [e, getD_app1, ← hl, getD_app1, List.mem_singleton]
      by_cases g : v = c.length
      · rw [g, at_last]; omega
      · by_cases g' : v < c.length
        · rw [at_app g']
          exact ⟨fun hh => absurd hh g, fun hh => absurd (hh.2 ▸ h.all v g') hx⟩
        · omega
    · rw [getD_app _ _ _ _ (by omega), getD_app _ _ _ _ (by omega), h.mem s (by omega) v]
      by_cases g : v = c.length
      · rw [g, at_last]
        exact ⟨fun hh => absurd hh.1 (Nat.lt_irrefl _), fun hh => absurd (hh.2 ▸ getD_mem_nat (by omega)) hx⟩
      · by_cases g' : v < c.length
        · rw [at_app g']; omega
        · omega
theorem map_range_getD (cols : List Nat) : (List.range cols.length).map (fun t => cols.getD t 0) = cols := by
  apply List.ext_getElem
  · simp
  · intro i h1 h2
    rw [List.getElem_map, List.getElem_range, List.getD_eq_getElem?_getD, List.getElem?_eq_getElem h2]; rfl
theorem ext_divs {X : Nat → Nat → Bool} {k : Nat} : ∀ (d : Nat) (c : List Nat) (L : List (List Nat)) (cols : List Nat), Cl k c L cols → ext X k d c = divs X k d c.length L
  | 0, _, _, _, _ => rfl
  | d + 1, c, L, cols, h => by
    have hl := h.len
    rw [ext, divs]
    rw [sumR_split k cols _ (divs X k d (c.length + 1) (L ++ [[c.length]])) h.nod h.lt (fun x hx hn => by
      rw [if_pos (okc_iff.2 fun v hv _ (e : at_ c v = x) => hn (e ▸ h.all v hv)), ext_divs d _ _ _ (h.new hn hx), List.length_append, List.length_singleton]), hl]
    congr 1
    conv => lhs; rw [← map_range_getD cols, sumL_map]
    rw [hl]
    refine sumL_congr _ fun t ht => ?_
    have ht' : t < L.length := List.mem_range.1 ht
    have e : okc X c (cols.getD t 0) = indep X (L.getD t []) c.length := by
      rw [Bool.eq_iff_iff, okc_iff]
      unfold indep
      simp only [List.all_eq_true, Bool.not_eq_true']
      constructor
      · intro hh a ha
        have := (h.mem t ht' a).1 ha
        cases g : X c.length a with
        | false => rfl
        | true => exact absurd this.2 (hh a this.1 g)
      · intro hh v hv hx e
        have := hh v ((h.mem t ht' v).2 ⟨hv, e⟩)
        rw [hx] at this; exact absurd this (by simp)
    rw [e]
    by_cases g : indep X (L.getD t []) c.length = true
    · rw [if_pos g, if_pos g, ext_divs d _ _ _ (h.into ht'), List.length_append, List.length_singleton]
    · rw [if_neg g, if_neg g]
def cls (X : Nat → Nat → Bool) : Nat → Nat → List (List Nat) → List Int → List Int
  | 0, _, L, out => out.set L.length (out.getD L.length 0 + 1)
  | d + 1, i, L, out => cls X d (i + 1) (L ++ [[i]]) ((List.range L.length).foldl (fun o t => if indep X (L.getD t []) i = true then cls X d (i + 1) (into L t i) o else o) out)
def fall (k : Int) : Nat → Int
  | 0 => 1
  | j + 1 => fall k j * (k - j)
def ev (k : Int) (out : List Int) : Int := sumR (fun j => out.getD j 0 * fall k j) out.length
theorem ev_set (k : Int) (out : List Int) (j : Nat) (a : Int) (hj : j < out.length) : ev k (out.set j (out.getD j 0 + a)) = ev k out + a * fall k j := by
  unfold ev
  rw [List.length_set]
  have h := sumR_one (f := fun s => if s = j then a * fall k j else 0) (a := j) out.length hj (fun x _ hx => if_neg hx)
  simp only [if_true] at h
  rw [← h, ← sumR_add]
  refine sumR_congr _ fun s hs => ?_
  rw [getD_set _ _ _ _ _ hs]
  by_cases e : s = j
  · rw [if_pos e, if_pos e, e, Int.add_mul]
  · rw [if_neg e, if_neg e]; omega
theorem cls_len (X : Nat → Nat → Bool) : ∀ (d i : Nat) (L : List (List Nat)) (out : List Int), (cls X d i L out).length = out.length
  | 0, _, _, _ => by rw [cls, List.length_set]
  | d + 1, i, L, out => by
    rw [cls, cls_len X d]
    suffices h : ∀ (l : List Nat) (o : List Int), (l.foldl (fun o t => if indep X (L.getD t []) i = true then cls X d (i + 1) (into L t i) o else o) o).length = o.length from h _ _
    intro l
    induction l with
    | nil => intro o; rfl
    | cons a l ih =>
      intro o
      rw [List.foldl_cons, ih]
      split
      · exact cls_len X d _ _ _
      · rfl
theorem into_len (L : List (List Nat)) (t i : Nat) : (into L t i).length = L.length := by unfold into; rw [List.length_set]
theorem cls_ev (X : Nat → Nat → Bool) (k : Nat) : ∀ (d i : Nat) (L : List (List Nat)) (out : List Int), L.length + d < out.length → ev k (cls X d i L out) = ev k out + fall k L.length * divs X k d i L
  | 0, i, L, out, h => by rw [cls, divs, ev_set k out L.length 1 (by omega)]; omega
  | d + 1, i, L, out, h => by
    have hf : ∀ (l : List Nat) (o : List Int), o.length = out.length → (l.foldl (fun o t => if indep X (L.getD t []) i = true then cls X d (i + 1) (into L t i) o else o) o).length = out.length ∧
        ev k (l.foldl (fun o t => if indep X (L.getD t []) i = true then cls X d (i + 1) (into L t i) o else o) o) = ev k o + fall k L.length * sumL (fun t => if indep X (L.getD t []) i = true then divs X k d (i + 1) (into L t i) else 0) l := by
      intro l
      induction l with
      | nil => intro o ho; rw [List.foldl_nil, sumL, Int.mul_zero]; exact ⟨ho, by omega⟩
      | cons a l ih =>
        intro o ho
        rw [List.foldl_cons, sumL]
        by_cases g : indep X (L.getD a []) i = true
        · rw [if_pos g, if_pos g]
          have := ih (cls X d (i + 1) (into L a i) o) (by rw [cls_len]; exact ho)
          refine ⟨this.1, ?_⟩
          rw [this.2, cls_ev X k d _ _ _ (by rw [into_len]; omega), into_len, Int.mul_add]; omega
        · rw [if_neg g, if_neg g, Int.zero_add]
          exact ih o ho
    have h1 := hf (List.range L.length) out rfl
    rw [cls, divs, cls_ev X k d _ _ _ (by rw [List.length_append, List.length_singleton, h1.1]; omega), h1.2, List.length_append, List.length_singleton, fall, Int.mul_add, Int.mul_assoc, Int.add_assoc]
theorem fall_pos (k : Nat) : ∀ j : Nat, j ≤ k → 0 < fall k j
  | 0, _ => by show (0 : Int) < 1; decide
  | j + 1, h => by rw [fall]; exact Int.mul_pos (fall_pos k j (by omega)) (by omega)
theorem fall_zero (k : Nat) : ∀ j : Nat, k < j → fall k j = 0
  | 0, h => absurd h (Nat.not_lt_zero _)
  | j + 1, h => by
    rw [fall]
    by_cases e : j = k
    · rw [e, Int.sub_self, Int.mul_zero]
    · rw [fall_zero k j (by omega), Int.zero_mul]
def clsOf (X : Nat → Nat → Bool) (n : Nat) : List Int := cls X n 0 [] (List.replicate (n + 1) 0)
theorem clsOf_len (X : Nat → Nat → Bool) (n : Nat) : (clsOf X n).length = n + 1 := by unfold clsOf; rw [cls_len, List.length_replicate]
theorem clsOf_ev (X : Nat → Nat → Bool) (n k : Nat) : ev k (clsOf X n) = ext X k n [] := by
  unfold clsOf
  rw [cls_ev X k n 0 [] _ (by simp)]
  rw [ext_divs n [] [] [] ⟨rfl, List.nodup_nil, by simp, by simp, by simp⟩]
  have : ev k (List.replicate (n + 1) 0) = 0 := by
    unfold ev
    refine sumR_zero _ fun j hj => ?_
    rw [List.length_replicate] at hj
    rw [List.getD_eq_getElem?_getD, List.getElem?_replicate, if_pos hj]; simp
  rw [this]; simp [fall]
theorem clsOf_subs (X : Nat → Nat → Bool) (n k : Nat) : ev k (clsOf X n) = subs n k (pairsOf X n) id := by rw [clsOf_ev, ext_subs]
def pv (x : Int) : List Int → Int
  | [] => 0
  | a :: l => a + x * pv x l
theorem pv_inj : ∀ p q : List Int, p.length = q.length → (∀ k : Nat, 1 ≤ k → pv k p = pv k q) → p = q
  | [], [], _, _ => rfl
  | [], _ :: _, h, _ => absurd h (by simp)
  | _ :: _, [], h, _ => absurd h (by simp)
  | a :: p, b :: q, hl, h => by
    have hd : ∀ k : Nat, 1 ≤ k → (k : Int) ∣ a - b := fun k hk => by
      have := h k hk
      rw [pv, pv] at this
      exact ⟨pv k q - pv k p, by rw [Int.mul_sub]; omega⟩
    have hab : a = b := by
      have hd1 := hd ((a - b).natAbs + 1) (by omega)
      have h0 : (a - b).natAbs = 0 := Nat.eq_zero_of_dvd_of_lt (Int.ofNat_dvd_left.1 hd1) (by omega)
      omega
    subst hab
    have : p = q := pv_inj p q (by simpa using hl) (fun k hk => by
      have := h k hk
      rw [pv, pv] at this
      exact Int.eq_of_mul_eq_mul_left (a := (k : Int)) (by omega) (by omega))
    rw [this]
theorem pv_replicate (x : Int) : ∀ n, pv x (List.replicate n 0) = 0
  | 0 => rfl
  | n + 1 => by rw [List.replicate_succ, pv, pv_replicate x n]; simp
theorem pv_set (x : Int) : ∀ (p : List Int) (j : Nat) (a : Int), j < p.length → pv x (p.set j (p.getD j 0 + a)) = pv x p + a * x ^ j
  | [], j, a, h => absurd h (Nat.not_lt_zero _)
  | b :: p, 0, a, _ => by rw [List.set_cons_zero, pv, pv]; simp; omega
  | b :: p, j + 1, a, h => by
    rw [List.set_cons_succ, pv, pv, List.getD_cons_succ, pv_set x p j a (by simpa using h), Int.mul_add, Int.pow_succ]
    have : x * (a * x ^ j) = a * (x ^ j * x) := by rw [← Int.mul_assoc, Int.mul_comm x a, Int.mul_assoc, Int.mul_comm x]
    omega
end Go.Proofs.Ytnlhhbnoccobmaa.Chrom
end
section
namespace Go.Proofs.Ytnlhhbnoccobmaa.Chrom
open Go.RowKit Go.Proofs.YtnlhhbnoccobmaaW.PrintWords Go.Proofs.YtnlhhbnoccobmaaW.PrintLast
def clsP (X : Nat → Nat → Bool) : Nat → Nat → List (List Nat) → List Int → List Int
  | 0, _, L, out => out.set L.length (wrap64 (out.getD L.length 0 + 1))
  | d + 1, i, L, out => clsP X d (i + 1) (L ++ [[i]]) ((List.range L.length).foldl (fun o t => if indep X (L.getD t []) i = true then clsP X d (i + 1) (into L t i) o else o) out)
def clsTo (X : Nat → Nat → Bool) (d i : Nat) (L : List (List Nat)) (out : List Int) (t : Nat) : List Int := (List.range t).foldl (fun o t => if indep X (L.getD t []) i = true then clsP X d (i + 1) (into L t i) o else o) out
theorem clsTo_succ (X : Nat → Nat → Bool) (d i : Nat) (L : List (List Nat)) (out : List Int) (t : Nat) : clsTo X d i L out (t + 1) = if indep X (L.getD t []) i = true then clsP X d (i + 1) (into L t i) (clsTo X d i L out t) else clsTo X d i L out t := by
  unfold clsTo; rw [List.range_succ, List.foldl_append]; rfl
theorem clsTo_len' (X : Nat → Nat → Bool) (d i : Nat) (L : List (List Nat)) (out : List Int) (h : ∀ L out, (clsP X d (i + 1) L out).length = out.length) : ∀ t, (clsTo X d i L out t).length = out.length
  | 0 => rfl
  | t + 1 => by
    rw [clsTo_succ]
    split
    · rw [h]; exact clsTo_len' X d i L out h t
    · exact clsTo_len' X d i L out h t
theorem clsP_len (X : Nat → Nat → Bool) : ∀ (d i : Nat) (L : List (List Nat)) (out : List Int), (clsP X d i L out).length = out.length
  | 0, _, _, _ => by rw [clsP, List.length_set]
  | d + 1, i, L, out => by rw [clsP, clsP_len X d (i + 1)]; exact clsTo_len' X d i L out (clsP_len X d (i + 1)) _
theorem clsTo_len (X : Nat → Nat → Bool) (d i : Nat) (L : List (List Nat)) (out : List Int) (t : Nat) : (clsTo X d i L out t).length = out.length := clsTo_len' X d i L out (clsP_len X d (i + 1)) t
def Few (M : Int) (out : List Int) : Prop := ∀ j, 0 ≤ out.getD j 0 ∧ out.getD j 0 ≤ M
theorem Few.le {M N : Int} {out : List Int} (h : Few M out) (hMN : M ≤ N) : Few N out := fun j => ⟨(h j).1, Int.le_trans (h j).2 hMN⟩
theorem few_set {M : Int} {out : List Int} (h : Few M out) (j : Nat) (hM : M < 9223372036854775807) : out.set j (wrap64 (out.getD j 0 + 1)) = out.set j (out.getD j 0 + 1) ∧ Few (M + 1) (out.set j (out.getD j 0 + 1)) := by
  have hj := h j
  refine ⟨by rw [show wrap64 (out.getD j 0 + 1) = out.getD j 0 + 1 from by unfold wrap64; omega], fun s => ?_⟩
  by_cases hs : s < out.length
  · rw [getD_set _ _ _ _ _ hs]
    have := h s
    split <;> omega
  · rw [List.getD_eq_getElem?_getD, List.getElem?_eq_none (by rw [List.length_set]; omega)]
    have := h s
    simp; omega
theorem cls_few (X : Nat → Nat → Bool) : ∀ (d i : Nat) (L : List (List Nat)) (out : List Int) (M : Nat), L.length + d ≤ 6 → M + 7 ^ d ≤ 4611686018427387904 → Few M out → clsP X d i L out = cls X d i L out ∧ Few ((M + 7 ^ d : Nat) : Int) (cls X d i L out)
  | 0, i, L, out, M, _, hM, h => by
    have := few_set h L.length (by omega)
    rw [clsP, cls]
    exact ⟨this.1, this.2.le (by omega)⟩
  | d + 1, i, L, out, M, hL, hM, h => by
    have hp : 7 ^ (d + 1) = 7 ^ d * 7 := Nat.pow_succ ..
    have key : ∀ (l : List Nat) (o : List Int) (N : Nat), Few N o → N + (l.length + 1) * 7 ^ d ≤ 4611686018427387904 →
        l.foldl (fun o t => if indep X (L.getD t []) i = true then clsP X d (i + 1) (into L t i) o else o) o = l.foldl (fun o t => if indep X (L.getD t []) i = true then cls X d (i + 1) (into L t i) o else o) o ∧ Few ((N + l.length * 7 ^ d : Nat) : Int) (l.foldl (fun o t => if indep X (L.getD t []) i = true then cls X d (i + 1) (into L t i) o else o) o) := by
      intro l
      induction l with
      | nil => intro o N ho hN; exact ⟨rfl, ho.le (by omega)⟩
      | cons a l ih =>
        intro o N ho hN
        have e1 : (l.length + 1 + 1) * 7 ^ d = (l.length + 1) * 7 ^ d + 7 ^ d := Nat.succ_mul ..
        have e2 : (l.length + 1) * 7 ^ d = l.length * 7 ^ d + 7 ^ d := Nat.succ_mul ..
        rw [List.length_cons] at hN ⊢
        rw [List.foldl_cons, List.foldl_cons]
        by_cases g : indep X (L.getD a []) i = true
        · rw [if_pos g, if_pos g]
          have h1 := cls_few X d (i + 1) (into L a i) o N (by rw [into_len]; omega) (by omega) ho
          have h2 := ih _ (N + 7 ^ d) h1.2 (by omega)
          rw [h1.1]
          exact ⟨h2.1, h2.2.le (by omega)⟩
        · rw [if_neg g, if_neg g]
          have h2 := ih o N ho (by omega)
          exact ⟨h2.1, h2.2.le (by omega)⟩
    have hm : (L.length + 2) * 7 ^ d ≤ 7 * 7 ^ d := Nat.mul_le_mul_right _ (by omega)
    have e3 : (L.length + 2) * 7 ^ d = (L.length + 1) * 7 ^ d + 7 ^ d := Nat.succ_mul ..
    have e4 : (L.length + 1) * 7 ^ d = L.length * 7 ^ d + 7 ^ d := Nat.succ_mul ..
    have h1 := key (List.range L.length) out M h (by rw [List.length_range]; omega)
    rw [List.length_range] at h1
    have h2 := cls_few X d (i + 1) (L ++ [[i]]) _ (M + L.length * 7 ^ d) (by rw [List.length_append, List.length_singleton]; omega) (by omega) h1.2
    rw [clsP, cls, h1.1]
    exact ⟨h2.1, h2.2.le (by omega)⟩
theorem few_zeros (n : Nat) : Few ((0 : Nat) : Int) (List.replicate n 0) := fun j => by
  rw [List.getD_eq_getElem?_getD, List.getElem?_replicate]
  split <;> simp
theorem clsP_of (X : Nat → Nat → Bool) (n : Nat) (hn : n ≤ 6) : clsP X n 0 [] (List.replicate (n + 1) 0) = clsOf X n ∧ Few 117649 (clsOf X n) := by
  have h7 : 7 ^ n ≤ 117649 := Nat.le_trans (Nat.pow_le_pow_right (n := 7) (by decide) hn) (by decide)
  have := cls_few X n 0 [] (List.replicate (n + 1) 0) 0 (by simpa using hn) (by omega) (few_zeros _)
  exact ⟨this.1, this.2.le (by omega)⟩
theorem indep_congr {X Y : Nat → Nat → Bool} {i : Nat} (s : List Nat) (h : ∀ a, a ∈ s → X i a = Y i a) : indep X s i = indep Y s i := by
  induction s with
  | nil => rfl
  | cons a s ih =>
    have := ih (fun b hb => h b (List.mem_cons_of_mem _ hb))
    unfold indep at this ⊢
    rw [List.all_cons, List.all_cons, this, h a List.mem_cons_self]
theorem cls_congr {X Y : Nat → Nat → Bool} (n : Nat) (h : ∀ i a, i < n → a < n → X i a = Y i a) : ∀ (d i : Nat) (L : List (List Nat)) (out : List Int), i + d ≤ n → (∀ s ∈ L, ∀ a ∈ s, a < i) → cls X d i L out = cls Y d i L out
  | 0, _, _, _, _, _ => rfl
  | d + 1, i, L, out, hi, hL => by
    have hstep : ∀ t, ∀ s ∈ into L t i, ∀ a ∈ s, a < i + 1 := fun t s hs a ha => by
      unfold into at hs
      rcases List.mem_or_eq_of_mem_set hs with g | g
      · have := hL s g a ha; omega
      · rw [g] at ha
        rcases List.mem_append.1 ha with k | k
        · by_cases e : t < L.length
          · rw [List.getD_eq_getElem?_getD, List.getElem?_eq_getElem e] at k
            have := hL _ (List.getElem_mem e) a k; omega
          · rw [List.getD_eq_getElem?_getD, List.getElem?_eq_none (by omega)] at k
            exact absurd k (by simp)
        · rw [List.mem_singleton] at k; omega
    have key : ∀ (l : List Nat) (o : List Int), l.foldl (fun o t => if indep X (L.getD t []) i = true then cls X d (i + 1) (into L t i) o else o) o = l.foldl (fun o t => if indep Y (L.getD t []) i = true then cls Y d (i + 1) (into L t i) o else o) o := by
      intro l
      induction l with
      | nil => intro o; rfl
      | cons a l ih =>
        intro o
        rw [List.foldl_cons, List.foldl_cons, ih]
        congr 1
        have e : indep X (L.getD a []) i = indep Y (L.getD a []) i := indep_congr _ (fun b hb => by
          have hb' : b < i := by
            by_cases e : a < L.length
            · rw [List.getD_eq_getElem?_getD, List.getElem?_eq_getElem e] at hb
              exact hL _ (List.getElem_mem e) b hb
            · rw [List.getD_eq_getElem?_getD, List.getElem?_eq_none (by omega)] at hb
              exact absurd hb (by simp)
          exact h i b (by omega) (by omega))
        rw [e, cls_congr n h d (i + 1) _ _ (by omega) (hstep a)]
    rw [cls, cls, key, cls_congr n h d (i + 1) _ _ (by omega) (fun s hs a ha => by
      rcases List.mem_append.1 hs with g | g
      · have := hL s g a ha; omega
      · rw [List.mem_singleton] at g
        rw [g, List.mem_singleton] at ha; omega)]
theorem clsOf_congr {X Y : Nat → Nat → Bool} (n : Nat) (h : ∀ i a, i < n → a < n → X i a = Y i a) : clsOf X n = clsOf Y n := cls_congr n h n 0 [] _ (by omega) (by simp)
theorem into_small {L : List (List Nat)} {i : Nat} (h : ∀ s ∈ L, s.length ≤ i ∧ ∀ x ∈ s, x < i) (t : Nat) : ∀ s ∈ into L t i, s.length ≤ i + 1 ∧ ∀ x ∈ s, x < i + 1 := by
  intro s hs
  unfold into at hs
  rcases List.mem_or_eq_of_mem_set hs with g | g
  · have := h s g
    exact ⟨by omega, fun x hx => by have := this.2 x hx; omega⟩
  · have e : (L.getD t []).length ≤ i ∧ ∀ x ∈ L.getD t [], x < i := by
      by_cases e : t < L.length
      · rw [List.getD_eq_getElem?_getD, List.getElem?_eq_getElem e]; exact h _ (List.getElem_mem e)
      · rw [List.getD_eq_getElem?_getD, List.getElem?_eq_none (by omega)]; exact ⟨Nat.zero_le _, fun x hx => absurd hx (by simp)⟩
    subst g
    refine ⟨by rw [List.length_append, List.length_singleton]; omega, fun x hx => ?_⟩
    rcases List.mem_append.1 hx with k | k
    · have := e.2 x k; omega
    · rw [List.mem_singleton] at k; omega
theorem new_small {L : List (List Nat)} {i : Nat} (h : ∀ s ∈ L, s.length ≤ i ∧ ∀ x ∈ s, x < i) : ∀ s ∈ L ++ [[i]], s.length ≤ i + 1 ∧ ∀ x ∈ s, x < i + 1 := by
  intro s hs
  rcases List.mem_append.1 hs with g | g
  · have := h s g
    exact ⟨by omega, fun x hx => by have := this.2 x hx; omega⟩
  · rw [List.mem_singleton] at g
    subst g
    exact ⟨by simp, fun x hx => by rw [List.mem_singleton] at hx; omega⟩
end Go.Proofs.Ytnlhhbnoccobmaa.Chrom
end
section
namespace Go.Proofs.Ytnlhhbnoccobmaa.F
open Go.RowKit Go.Proofs.YtnlhhbnoccobmaaW.PrintWords Go.Proofs.YtnlhhbnoccobmaaW.PrintLast Go.Proofs.YtnlhhbnoccobmaaW.PrintMore
attribute [local go_sem] max2_int min2_int max_two min_two max_three min_three max_four min_four   
set_option linter.unusedVariables false
set_option linter.unusedSimpArgs false
open Go.Proofs.Ytnlhhbnoccobmaa.Pure Go.Proofs.Ytnlhhbnoccobmaa.Mem Go.Proofs.Ytnlhhbnoccobmaa.Chrom
set_option maxHeartbeats 1500000 in
set_option maxRecDepth 100000 in
theorem classes_1_1 (l0 : List Int) (hw : Word l0) (A0 : Option Addr) (c0 n : Nat) (Bw Ba a b : Nat) (v : Bool) (hv : (crossB l0 b a) = v) (hn : n = l0.length / 2) (hc0 : l0.length ≤ c0) (ha : a < n) (hb : b < n) (w : World) (hr : Kd.C (Kd.int .i64) w A0 l0.length l0)
  (h1 : w.cell? ⟨Bw, 0, none⟩ = some (.slice A0 l0.length c0)) (h3 : w.cell? ⟨Ba, 0, none⟩ = some (.int .i64 (a : Int))) :
  Calls Try.prog 186 #[.int .i64 (b : Int), .pointer (some ⟨Bw, 0, none⟩), .pointer (some ⟨Ba, 0, none⟩)] w fun e w' => e = .returned (.bool v) ∧ ∃ nd, w' = w.drewN nd := by
 subst hv
 have hle := hw.le
 obtain ⟨x, hx⟩ : ∃ x, x = crossB l0 b a := ⟨_, rfl⟩
 obtain ⟨q, hq⟩ := Ev.rounds (icross_ev l0 hw b a (by omega) (by omega))
 rw [← hx] at hq ⊢
 have HQ := Aside0.mk hq
 have HR := Aside0.mk hr
 have HC := Aside0.mk hc0
 clear hq hr hc0 hw hx hn
 go_enter Try.func186, Try.ntmps186
 go_wp2_with (first | (go_at_call 187; refine (impl_cross.calls q A0 c0 l0 (b : Int) (a : Int) x _ HR.out HC.out HQ.out).mono ?_; rintro e w2 ⟨rfl, ⟨nd, rfl⟩⟩))
 go_ret
 exact ⟨rfl, _, rfl⟩
set_option maxHeartbeats 1500000 in
set_option maxRecDepth 100000 in
theorem classes_IndexFunc (l0 : List Int) (hw : Word l0) (A0 : Option Addr) (c0 n : Nat) (Bw Ba a : Nat) (hn : n = l0.length / 2) (hc0 : l0.length ≤ c0) (ha : a < n) (l : List Nat) (hl : ∀ b ∈ l, b < n) (hll : l.length ≤ 6) (A : Option Addr) (c : Nat) (w : World) (hr : Kd.C (Kd.int .i64) w A0 l0.length l0)
  (hL : Kd.C (Kd.int .i64) w A (ints l).length (ints l)) (h1 : w.cell? ⟨Bw, 0, none⟩ = some (.slice A0 l0.length c0)) (h3 : w.cell? ⟨Ba, 0, none⟩ = some (.int .i64 (a : Int))) :
  Calls Try.prog 132 #[.slice A (ints l).length c, .func (.func 186) #[] #[.pointer (some ⟨Bw, 0, none⟩), .pointer (some ⟨Ba, 0, none⟩)]] w fun e w' =>
   e = .returned (.int .i64 (idxF (fun b => crossB l0 b a) l 0)) ∧ ∃ nd, w' = w.drewN nd := by
 have HW := Aside0.mk hw
 have HN := Aside0.mk hn
 have HR := Aside0.mk hr
 have HC := Aside0.mk hc0
 have HL := Aside0.mk hl
 have HLL := Aside0.mk hL
 have H1 := Aside0.mk h1
 have H3 := Aside0.mk h3
 have HIL := Aside0.mk (ints_len l)
 obtain ⟨P, hP⟩ : ∃ P : Nat → Bool, P = fun b => crossB l0 b a := ⟨_, rfl⟩
 rw [← hP]
 have HP := Aside0.mk hP
 clear hw hn hr hc0 hl hL h1 h3 hP
 go_enter Try.func132, Try.ntmps132
 go_wp2
 go_loopw [8] (fun i wr => ∃ x : Nat, i = .int .i64 (x : Int) ∧ Aside0 (x ≤ l.length) ∧ Aside0 ((l.take x).any P = false) ∧ ∃ nd, wr = w.drewN nd)
  (fun i _ => l.length - (intOf i).toNat)
 case atStart => exact ⟨0, rfl, ⟨Nat.zero_le _⟩, ⟨rfl⟩, 0, rfl⟩
 case round =>
  obtain ⟨x, rfl, HX, HA, nd, rfl⟩ := hrel
  by_cases hlt : x < l.length
  ·have t1 : decide ((x : Int) < ((ints l).length : Int)) = true := decide_eq_true (by rw [HIL.out]; omega)
   have t2 : decide (x < (ints l).length) = true := decide_eq_true (by rw [HIL.out]; omega)
   obtain ⟨ad, ead, hcell⟩ := cell_of_C HLL.out x (by rw [HIL.out]; exact hlt)
   subst ead
   rw [ints_getD l x hlt] at hcell
   obtain ⟨b, hb⟩ : ∃ b, b = l.getD x 0 := ⟨_, rfl⟩
   rw [← hb] at hcell
   have HB := Aside0.mk hb
   have HBN := Aside0.mk (show b < n from by rw [hb]; exact HL.out _ (by rw [List.getD_eq_getElem?_getD, List.getElem?_eq_getElem hlt]; exact List.getElem_mem _))
   have HT := Aside0.mk (show l.take (x + 1) = l.take x ++ [b] from by rw [List.take_succ_eq_append_getElem hlt, hb, List.getD_eq_getElem?_getD, List.getElem?_eq_getElem hlt]; rfl)
   have HD := Aside0.mk (show l.drop x = b :: l.drop (x + 1) from by rw [List.drop_eq_getElem_cons hlt, hb, List.getD_eq_getElem?_getD, List.getElem?_eq_getElem hlt]; rfl)
   have HLT := Aside0.mk hlt
   have hxl : x < (ints l).length := by rw [HIL.out]; exact hlt
   clear hlt hb
   obtain ⟨v, hv⟩ : ∃ v, (crossB l0 b a) = v := ⟨_, rfl⟩
   have HVV := Aside0.mk hv
   have HV := Aside0.mk (show P b = v from by rw [HP.out]; exact hv)
   clear hv
   cases v with
   | true =>
    go_wp2_with (first | (go_at_call 186; refine (classes_1_1 l0 HW.out A0 c0 n Bw Ba a b _ HVV.out HN.out HC.out ha HBN.out _ (Kd.C_drewN HR.out _) H1.out H3.out).mono ?_; rintro e w2 ⟨rfl, ⟨nd2, rfl⟩⟩))
    go_ret
    refine ⟨?_, _, rfl⟩
    rw [idxF_skip x HX.out HA.out, HD.out, idxF, if_pos HV.out]
    rfl
   | false =>
    go_wp2_with (first | (go_at_call 186; refine (classes_1_1 l0 HW.out A0 c0 n Bw Ba a b _ HVV.out HN.out HC.out ha HBN.out _ (Kd.C_drewN HR.out _) H1.out H3.out).mono ?_; rintro e w2 ⟨rfl, ⟨nd2, rfl⟩⟩))
    go_roundw
    case rel => exact ⟨x + 1, congrArg _ (wS (by have := HLT.out; omega)), ⟨HLT.out⟩, ⟨by rw [HT.out, List.any_append, HA.out]; simp [HV.out]⟩, _, rfl⟩
    case measure => have := HLT.out; rw [wS (by omega)]; simp [intOf]; omega
  ·have t1 : decide ((x : Int) < ((ints l).length : Int)) = false := decide_eq_false (by rw [HIL.out]; omega)
   have t2 : decide (x < (ints l).length) = false := decide_eq_false (by rw [HIL.out]; omega)
   have HXE := Aside0.mk (show x = l.length from by have := HX.out; omega)
   clear hlt
   go_wp2
   go_ret
   refine ⟨?_, _, rfl⟩
   have h := HA.out
   rw [HXE.out] at h
   rw [idxF_skip l.length (Nat.le_refl _) h, List.drop_of_length_le (Nat.le_refl _)]
   rfl
set_option maxHeartbeats 1500000 in
set_option maxRecDepth 100000 in
theorem classes_ContainsFunc (l0 : List Int) (hw : Word l0) (A0 : Option Addr) (c0 n : Nat) (Bw Ba a : Nat) (hn : n = l0.length / 2) (hc0 : l0.length ≤ c0) (ha : a < n) (l : List Nat) (hl : ∀ b ∈ l, b < n) (hll : l.length ≤ 6) (A : Option Addr) (c : Nat) (w : World) (hr : Kd.C (Kd.int .i64) w A0 l0.length l0)
  (hL : Kd.C (Kd.int .i64) w A (ints l).length (ints l)) (h1 : w.cell? ⟨Bw, 0, none⟩ = some (.slice A0 l0.length c0)) (h3 : w.cell? ⟨Ba, 0, none⟩ = some (.int .i64 (a : Int))) :
  Calls Try.prog 185 #[.slice A (ints l).length c, .func (.func 186) #[] #[.pointer (some ⟨Bw, 0, none⟩), .pointer (some ⟨Ba, 0, none⟩)]] w fun e w' =>
   e = .returned (.bool (l.any fun b => crossB l0 b a)) ∧ ∃ nd, w' = w.drewN nd := by
 have HI := Aside0.mk (idxF_ge (fun b => crossB l0 b a) l 0)
 have HW := Aside0.mk hw
 have HN := Aside0.mk hn
 have HR := Aside0.mk hr
 have HC := Aside0.mk hc0
 have HL := Aside0.mk hl
 have HLL := Aside0.mk hL
 have H1 := Aside0.mk h1
 have H3 := Aside0.mk h3
 clear hw hn hr hc0 hl hL h1 h3
 go_enter Try.func185, Try.ntmps185
 go_wp2_with (first | (go_at_call 132; refine (classes_IndexFunc l0 HW.out A0 c0 n Bw Ba a HN.out HC.out ha l HL.out hll A c _ HR.out HLL.out H1.out H3.out).mono ?_; rintro e w1 ⟨rfl, ⟨nd, rfl⟩⟩))
 go_ret
 exact ⟨by rw [← HI.out]; rfl, _, rfl⟩
structure KEnv (w : World) (l0 : List Int) (A0 : Option Addr) (c0 m Bo Bm Bw Br : Nat) : Prop where
 co : w.cell? ⟨Bo, 0, none⟩ = some (.slice (some ⟨Br, 0, none⟩) m m)
 cm : w.cell? ⟨Bm, 0, none⟩ = some (.func (.func 184) #[] #[.pointer (some ⟨Bw, 0, none⟩), .pointer (some ⟨Bo, 0, none⟩), .pointer (some ⟨Bm, 0, none⟩)])
 cw : w.cell? ⟨Bw, 0, none⟩ = some (.slice A0 l0.length c0)
 n2 : Bo ≠ Br
 n3 : Bm ≠ Br
 n4 : Bw ≠ Br
 rd : Kd.F (Kd.int .i64) w (fun k => k ≠ Br) A0 l0.length l0
 lt : Br < w.heap.size
theorem KEnv.grown {w w' : World} {l0 : List Int} {A0 : Option Addr} {c0 m Bo Bm Bw Br : Nat} (h : KEnv w l0 A0 c0 m Bo Bm Bw Br) (hg : w.grownBy w' (some Br)) : KEnv w' l0 A0 c0 m Bo Bm Bw Br :=
 ⟨hg.cell h.co (fun e => h.n2 (Option.some.inj e)), hg.cell h.cm (fun e => h.n3 (Option.some.inj e)), hg.cell h.cw (fun e => h.n4 (Option.some.inj e)), h.n2, h.n3, h.n4,
  Kd.F_grown h.rd hg (fun k hk e => hk (Option.some.inj e)), Nat.lt_of_lt_of_le h.lt hg.size⟩
set_option maxHeartbeats 1500000 in
set_option maxRecDepth 100000 in
theorem classes_1_end (l0 : List Int) (A0 : Option Addr) (c0 n m Bo Bm Bw Br : Nat) (hn : n = l0.length / 2) (hle : l0.length ≤ 12) (hc0 : l0.length ≤ c0) (j : Nat) (out : List Int) (A : Option Addr) (c : Nat) (w : World) (E : KEnv w l0 A0 c0 m Bo Bm Bw Br)
  (hm : out.length = m) (hr : w.heap[Br]? = some (.cells (nums .i64 out).toArray 2 (0, 0))) (hj : j < m) :
  Calls Try.prog 184 #[.int .i64 (n : Int), .slice A j c, .pointer (some ⟨Bw, 0, none⟩), .pointer (some ⟨Bo, 0, none⟩), .pointer (some ⟨Bm, 0, none⟩)] w fun e w' =>
   e = .returned (.tuple #[]) ∧ w.grownBy w' (some Br) ∧ w'.heap[Br]? = some (.cells (nums .i64 (out.set j (wrap64 (out.getD j 0 + 1)))).toArray 2 (0, 0)) := by
 have hch : impl_chords.f l0 = some (n : Int) := by rw [hn]; exact chords_f l0 hle
 have CH := Aside0.mk hch
 have HC := Aside0.mk hc0
 have HR := Aside0.mk hr
 have HM := Aside0.mk hm
 have HE := Aside0.mk E
 clear hr hm E hch hn hle hc0
 obtain ⟨w1, hw1⟩ : ∃ w1, w1 = w.alloc (.cells #[.int .i64 (n : Int)] 2 (0, 0)) := ⟨_, rfl⟩
 have HG1 := Aside0.mk (show w.grownBy w1 (some Br) from by rw [hw1]; exact grown_alloc (grown_refl _ _) _)
 have HE1 := Aside0.mk (HE.out.grown HG1.out)
 have hi := show w1.cell? ⟨w.heap.size, 0, none⟩ = some (.int .i64 (n : Int)) from by rw [hw1]; exact cell1 (new_at rfl)
 have hcw := HE1.out.cw
 have HR1 := Aside0.mk (show w1.heap[Br]? = some (.cells (nums .i64 out).toArray 2 (0, 0)) from by rw [hw1]; exact blk_alloc HR.out _)
 go_enter Try.func184, Try.ntmps184
 go_wp2
 rw [← hw1]
 have HW1 := Aside0.mk hw1
 clear hw1
 go_quiet ((go_at_call 173; exact Calls.quiet_of ((impl_chords.calls A0 c0 l0 _ _ (Kd.C_drewN (Kd.F_now HE1.out.rd) _) HC.out CH.out).mono (fun _ _ h => ⟨h.1, h.2.out⟩))))
 have HE2 := Aside0.mk (HE1.out.grown (grown_drewN (grown_refl _ _) nq))
 have HR2 := Aside0.mk (show (w1.drewN nq).heap[Br]? = some (.cells (nums .i64 out).toArray 2 (0, 0)) from blk_drewN HR1.out _)
 have h2 := HE2.out.co
 have hx := blk_cell HR2.out j
 rw [nums_get out _ (by rw [HM.out]; exact hj)] at hx
 have hfz := blk_frozen HR2.out j
 clear hi hcw
 go_wp2
 (try simp only [Exit.inBlock, Exit.then])
 refine bodyPost_ret (results_none rfl _ _ _) rfl ?_
 exact ⟨rfl, grown_set (grown_drewN HG1.out _) _ _, by rw [blk_set HR2.out, nums_set, List.getD_eq_getElem?_getD]⟩
def classV (w : List Int) : List Int := clsP (fun i a => crossB w a i) (w.length / 2) 0 [] (List.replicate (w.length / 2 + 1) 0)
def impl_classes.f (l0 : List Int) : Option (List Int) := if isW l0 = true then some (classV l0) else none
set_option maxHeartbeats 4000000 in
set_option maxRecDepth 100000 in
theorem classes_1 (l0 : List Int) (hw : Word l0) (A0 : Option Addr) (c0 n m Bo Bm Bw Br : Nat) (hn : n = l0.length / 2) (hmn : m = n + 1) (hc0 : l0.length ≤ c0) : ∀ (d i : Nat) (L : List (List Nat)) (out : List Int) (A : Option Addr) (c : Nat) (w : World), i + d = n →
  KEnv w l0 A0 c0 m Bo Bm Bw Br → out.length = m → w.heap[Br]? = some (.cells (nums .i64 out).toArray 2 (0, 0)) → (∀ s ∈ L, s.length ≤ i ∧ ∀ x ∈ s, x < i) → L.length ≤ i → Kd.F (Kd.slice 2 (Kd.int .i64)) w (fun k => k ≠ Br) A L.length (L.map ints) → L.length ≤ c →
  Calls Try.prog 184 #[.int .i64 (i : Int), .slice A L.length c, .pointer (some ⟨Bw, 0, none⟩), .pointer (some ⟨Bo, 0, none⟩), .pointer (some ⟨Bm, 0, none⟩)] w fun e w' =>
   e = .returned (.tuple #[]) ∧ w.grownBy w' (some Br) ∧ w'.heap[Br]? = some (.cells (nums .i64 (clsP (fun i a => crossB l0 a i) d i L out)).toArray 2 (0, 0)) := by
 have hle := hw.le
 intro d
 induction d with
 | zero =>
  intro i L out A c w hi E ho hr hs hL hF hc
  obtain rfl : i = n := by omega
  exact classes_1_end l0 A0 c0 i m Bo Bm Bw Br hn hle hc0 L.length out A c w E ho hr (by omega)
 | succ d ih =>
  intro i L out A c w hi E ho hr hs hL hF hc
  have hch : impl_chords.f l0 = some (n : Int) := by rw [hn]; exact chords_f l0 hle
  have CH := Aside0.mk hch
  have HW := Aside0.mk hw
  have HN := Aside0.mk hn
  have HMN := Aside0.mk hmn
  have HC0 := Aside0.mk hc0
  have HI := Aside0.mk hi
  have HE := Aside0.mk E
  have HO := Aside0.mk ho
  have HR := Aside0.mk hr
  have HS := Aside0.mk hs
  have HL := Aside0.mk hL
  have HF := Aside0.mk hF
  have HC := Aside0.mk hc
  have HIH := Aside0.mk ih
  have hi6 : i < 6 := by omega
  have t0 : ((i : Int) == (n : Int)) = false := by simp; omega
  have W1 := Aside0.mk (show IntKind.i64.wrap ((i : Int) + 1) = ((i + 1 : Nat) : Int) from (i64_w _).trans (wS (by omega)))
  obtain ⟨w1, hw1⟩ : ∃ w1, w1 = w.alloc (.cells #[.int .i64 (i : Int)] 2 (0, 0)) := ⟨_, rfl⟩
  have HG1 := Aside0.mk (show w.grownBy w1 (some Br) from by rw [hw1]; exact grown_alloc (grown_refl _ _) _)
  have HE1 := Aside0.mk (HE.out.grown HG1.out)
  have hib := show w1.cell? ⟨w.heap.size, 0, none⟩ = some (.int .i64 (i : Int)) from by rw [hw1]; exact cell1 (new_at rfl)
  have hcw := HE1.out.cw
  clear hw hn hmn hc0 hi E ho hr hs hL hF hc ih hch hle
  go_enter Try.func184, Try.ntmps184
  go_wp2
  rw [← hw1]
  have HW1 := Aside0.mk hw1
  clear hw1
  go_quiet ((go_at_call 173; exact Calls.quiet_of ((impl_chords.calls A0 c0 l0 _ _ (Kd.C_drewN (Kd.F_now HE1.out.rd) _) HC0.out CH.out).mono (fun _ _ h => ⟨h.1, h.2.out⟩))))
  go_wp2_with fail
  have HG2 := Aside0.mk (grown_drewN HG1.out nq)
  have HR2 := Aside0.mk (show (w1.drewN nq).heap[Br]? = some (.cells (nums .i64 out).toArray 2 (0, 0)) from blk_drewN (by rw [HW1.out]; exact blk_alloc HR.out _) _)
  go_loopw [23] (fun s wr => ∃ t : Nat, s = .int .i64 (t : Int) ∧ Aside0 (t ≤ L.length) ∧ Aside0 (w.grownBy wr (some Br)) ∧ Aside0 (wr.cell? ⟨w.heap.size, 0, none⟩ = some (.int .i64 (i : Int))) ∧ Aside0 (wr.heap[Br]? = some (.cells (nums .i64 (clsTo (fun i a => crossB l0 a i) d i L out t)).toArray 2 (0, 0))))
   (fun s _ => L.length - (intOf s).toNat)
  case atStart => exact ⟨0, rfl, ⟨Nat.zero_le _⟩, HG2, ⟨by have := hib; simpa using this⟩, HR2⟩
  case round =>
   clear hib hcw
   obtain ⟨t, rfl, HT, HG, HB, HH⟩ := hrel
   have HE3 := Aside0.mk (HE.out.grown HG.out)
   have hib := HB.out
   have hcw := HE3.out.cw
   have hcm := HE3.out.cm
   have HF3 := Aside0.mk (Kd.F_grown HF.out HG.out (fun k hk e => hk (Option.some.inj e)))
   by_cases hlt : t < L.length
   ·have s1 : decide ((t : Int) < (L.length : Int)) = true := decide_eq_true (by omega)
    have s2 : decide (t < L.length) = true := decide_eq_true hlt
    have HLT := Aside0.mk hlt
    obtain ⟨adl, At, ct, eal, hrow, hct, hCt⟩ := at_L1 (Kd.F_now HF3.out) (t : Int) (by omega) (by omega)
    subst eal
    rw [Int.toNat_natCast] at hrow
    have HF3M := Aside0.mk (show Kd.F (Kd.slice 2 (Kd.int .i64)) wr (fun k => k ≠ Br) (some adl) (L.map ints).length (L.map ints) from by rw [List.length_map]; exact HF3.out)
    have HCM := Aside0.mk (show (L.map ints).length ≤ c from by rw [List.length_map]; exact HC.out)
    have HLM := Aside0.mk (show (L.map ints).length ≤ 1000000 from by rw [List.length_map]; have := HL.out; omega)
    have HLE := Aside0.mk (show (L.map ints).length = L.length from List.length_map _)
    obtain ⟨s, hs⟩ : ∃ s, s = L.getD t [] := ⟨_, rfl⟩
    have hrd : rd_L1 (L.map ints) (t : Int) = ints s := by
     unfold rd_L1
     rw [Int.toNat_natCast, hs, List.getD_eq_getElem?_getD, List.getElem?_map, List.getD_eq_getElem?_getD, List.getElem?_eq_getElem hlt]; rfl
    rw [hrd] at hrow hct hCt
    have HSS := Aside0.mk (show s.length ≤ i ∧ ∀ x ∈ s, x < i from HS.out s (by rw [hs, List.getD_eq_getElem?_getD, List.getElem?_eq_getElem hlt]; exact List.getElem_mem _))
    have HCT := Aside0.mk hct
    have HCR := Aside0.mk hCt
    have HSD := Aside0.mk hs
    clear hct hCt hs hrd hlt
    have hin : i < n := by have := HI.out; omega
    have hlt2 := HLT.out
    have HX := Aside0.mk (show indep (fun i a => crossB l0 a i) s i = !(s.any fun b => crossB l0 b i) from by
     unfold indep; rw [List.all_eq_not_any_not]; simp)
    cases hv : (s.any fun b => crossB l0 b i) with
    | true =>
     have HV := Aside0.mk hv
     clear hv
     go_wp2_with (first | (go_at_call 185; refine (classes_ContainsFunc l0 HW.out A0 c0 n Bw w.heap.size i HN.out HC0.out hin s (fun b hb => by have := HSS.out.2 b hb; omega) (by have := HSS.out.1; omega) At ct _ (Kd.F_now HE3.out.rd) HCR.out hcw hib).mono ?_; rintro e w2 ⟨rfl, ⟨nd, rfl⟩⟩; rw [HV.out]))
     go_roundw
     case rel => exact ⟨t + 1, congrArg _ (wS (by have := HLT.out; have := HL.out; omega)), ⟨HLT.out⟩, ⟨grown_drewN HG.out _⟩, ⟨by have := hib; simpa using this⟩, ⟨by rw [clsTo_succ, ← HSD.out, HX.out, HV.out, Bool.not_true, if_neg (by simp)]; exact blk_drewN HH.out _⟩⟩
     case measure => have := HLT.out; have := HL.out; rw [wS (by omega)]; simp [intOf]; omega
    | false =>
     have HV := Aside0.mk hv
     clear hv
     go_wp2_with (first | (go_at_call 185; refine (classes_ContainsFunc l0 HW.out A0 c0 n Bw w.heap.size i HN.out HC0.out hin s (fun b hb => by have := HSS.out.2 b hb; omega) (by have := HSS.out.1; omega) At ct _ (Kd.F_now HE3.out.rd) HCR.out hcw hib).mono ?_; rintro e w2 ⟨rfl, ⟨nd, rfl⟩⟩; rw [HV.out]) | (go_at_call 188; refine (calls_len0 HLE.out (slices_Clone_rows_int64.calls (fun k => k ≠ Br) (some adl) c (L.map ints) _ (Kd.F_drewN HF3M.out _) HCM.out HLM.out)).mono ?_; rintro e w4 ⟨v4, rfl, ho4, hb4⟩; have HO4 := Aside0.mk ho4; have HB4 := Aside0.mk hb4; clear ho4 hb4; obtain ⟨An, cn, rfl⟩ := Kd.N_slice HO4.out))
     obtain ⟨g, cg, egn, hLc, hgb, hgl, hgo⟩ := N_head HO4.out (by rw [List.length_map]; omega)
     obtain ⟨rfl, rfl⟩ : An = some ⟨g, 0, none⟩ ∧ cn = cg := by injection egn with e1 e2 e3; exact ⟨e1, e3⟩
     have HGL := Aside0.mk hgl
     have HGB := Aside0.mk hgb
     have HGW := Aside0.mk (show w.heap.size ≤ g from by have := HG.out.size; have h3 : (wr.drewN nd).heap.size = wr.heap.size := rfl; omega)
     have HLC := Aside0.mk hLc
     have h4 : w.heap.size < wr.heap.size := World.block_lt_of_cell? wr _ hib
     have HWL := Aside0.mk h4
     have HGI := Aside0.mk (show w.heap.size < g from by have h3 : (wr.drewN nd).heap.size = wr.heap.size := rfl; omega)
     clear h4
     have HGR := Aside0.mk (show Br < g from by have := HE3.out.lt; have h3 : (wr.drewN nd).heap.size = wr.heap.size := rfl; omega)
     have HW4 := Aside0.mk (grown_trans (grown_drewN HG.out nd) (gb_of_below HB4.out (some Br)))
     have HE4 := Aside0.mk (HE.out.grown HW4.out)
     have hib4 := show w4.cell? ⟨w.heap.size, 0, none⟩ = some (.int .i64 (i : Int)) from (gb_of_below HB4.out none).cell (by have := hib; simpa using this) (by simp)
     have HC4 := Aside0.mk (Kd.C_below (Kd.C_drewN HCR.out nd) HB4.out)
     have HH4 := Aside0.mk (show w4.heap[Br]? = some (.cells (nums .i64 (clsTo (fun i a => crossB l0 a i) d i L out t)).toArray 2 (0, 0)) from (HB4.out.block Br (by have := HE3.out.lt; exact this)).trans (blk_drewN HH.out _))
     have HXN := Aside0.mk (show (ints s).length ≤ 6 from by rw [ints_len]; have := HSS.out.1; omega)
     clear hLc hgb hgl hgo egn hib hcw hcm
     obtain ⟨i0, hi0, hz0, hz1, hz2⟩ := info_parts info2
     go_region_law (first
      | (refine goes_ Try.func189 (by kernel_rfl) rfl #[.slice At (ints s).length ct] (by rfl) rfl rfl (by simp [Act.eval, Act.put]) ?_; refine (slices_Clip_int64_int64.calls At (ints s).length ct _ HCT.out).mono ?_; rintro e w2 ⟨rfl, rfl⟩; refine ⟨_, rfl, ?_⟩)
      | (refine step_append_full rfl (.tmp 37) (.tmp 39) 22 2 rfl Try.underlying22 info2 At (ints s).length 1 w4.heap.size (ints s) [(i : Int)] ?p1 ?p2 ?p3 ?p4 rfl (by decide) ?p5 ?_; (case p1 => simp [Act.eval, Act.put]); (case p2 => simp [Act.eval, Act.put]); (case p3 => repeat (first | exact HC4.out | (with_reducible refine Kd.C_alloc ?_ _) | (with_reducible refine Kd.C_drewN ?_ _) | (with_reducible refine Kd.C_drew ?_))); (case p4 => repeat (first | exact heap_alloc_new _ _ | (with_reducible refine blk_drewN ?_ _) | (with_reducible refine blk_drew ?_))); (case p5 => have := HXN.out; omega); intro v1 w2 ho2 hg2; obtain ⟨A2, c2, rfl, hl2, _⟩ := Kd.R_reads ho2; have HGN := Aside0.mk (grown_trans (show w4.grownBy _ none from by repeat (first | exact grown_refl _ _ | (with_reducible refine grown_alloc ?_ _) | (with_reducible refine grown_drewN ?_ _) | (with_reducible refine grown_drew ?_))) hg2); have HF2 := Aside0.mk (Kd.F_mono (ok' := fun k => w4.heap.size ≤ k) (Kd.R_F ho2) (fun q hq => by simp at hq; omega)); have HL2 := Aside0.mk hl2; have HN2 := Aside0.mk (Kd.N_below HO4.out (grown_below HGN.out)); clear ho2 hg2 hl2; obtain ⟨u2, hcx, hfx⟩ := N_cell HN2.out rfl t (by rw [List.length_map]; exact hlt2)))
     all_goals
      obtain ⟨w5, hw5⟩ : ∃ w5, w5 = w2.setCell ⟨g, t, none⟩ (.slice A2 ((ints s).length + 1) c2) := ⟨_, rfl⟩
      rw [← hw5]
      have HN5 := Aside0.mk (show Kd.N (Kd.slice 2 (Kd.int .i64)) 22 w5 (wr.drewN nd).heap.size (fun k => k ≠ Br ∨ (wr.drewN nd).heap.size ≤ k) (.slice (some ⟨g, 0, none⟩) (L.map ints).length cn) ((L.map ints).set t (ints s ++ [(i : Int)])) from by
       rw [hw5, show (ints s).length + 1 = (ints s ++ [(i : Int)]).length from by simp]
       exact N_put HN2.out rfl t (by rw [HLE.out]; exact hlt2) _ _ (Kd.FK_slice_mk HL2.out HF2.out) (fun k hk => ⟨.inr (Nat.le_trans HB4.out.size hk), by have := HGL.out; omega⟩))
      have HG5 := Aside0.mk (show w.grownBy w5 (some Br) from by rw [hw5]; exact grown_put_new (grown_trans HW4.out (grown_of_none HGN.out _)) HGW.out _ _)
      have HE5 := Aside0.mk (HE.out.grown HG5.out)
      have hib5 := show w5.cell? ⟨w.heap.size, 0, none⟩ = some (.int .i64 (i : Int)) from by
       rw [hw5, cell_far (by have := HGI.out; simp; omega)]
       exact HGN.out.cell hib4 (by simp)
      have HH5 := Aside0.mk (show w5.heap[Br]? = some (.cells (nums .i64 (clsTo (fun i a => crossB l0 a i) d i L out t)).toArray 2 (0, 0)) from by
       rw [hw5]
       exact blk_far ((HGN.out.block Br HE4.out.lt (by simp)).trans HH4.out) (by have := HGR.out; simp; omega) _)
      have hcm5 := HE5.out.cm
      clear hw5 hcx hfx hib4
      go_wp2_with fail
      have HSI := Aside0.mk (show (L.map ints).set t (ints s ++ [(i : Int)]) = (into L t i).map ints from by unfold into; rw [List.map_set, ← HSD.out, ints_app]; rfl)
      have HIL := Aside0.mk (show (into L t i).length = L.length from into_len L t i)
      have HF5 := Aside0.mk (show Kd.F (Kd.slice 2 (Kd.int .i64)) w5 (fun k => k ≠ Br) (some ⟨g, 0, none⟩) (into L t i).length ((into L t i).map ints) from by
       have h := Kd.N_F HN5.out
       rw [HSI.out] at h
       rw [HIL.out, ← HLE.out]
       exact Kd.F_mono h (fun k hk => by rcases hk with hk | hk; exact hk; have h3 : (wr.drewN nd).heap.size = wr.heap.size := rfl; have := HE3.out.lt; omega))
      refine calls_args (as' := #[.int .i64 ((i + 1 : Nat) : Int), .slice (some ⟨g, 0, none⟩) (into L t i).length cn, .pointer (some ⟨Bw, 0, none⟩), .pointer (some ⟨Bo, 0, none⟩), .pointer (some ⟨Bm, 0, none⟩)]) (by rw [HIL.out]; rfl) ?_
      refine (HIH.out (i + 1) (into L t i) _ (some ⟨g, 0, none⟩) cn w5 (by have := HI.out; omega) HE5.out (by rw [clsTo_len, HO.out]) HH5.out (into_small HS.out t) (by rw [HIL.out]; have := HL.out; omega) HF5.out (by rw [HIL.out, ← HLE.out]; exact HLC.out)).mono ?_
      rintro e w6 ⟨rfl, hg6, hr6⟩
      have HG6 := Aside0.mk (grown_trans HG5.out hg6)
      have hib6 := hg6.cell hib5 (fun e => by have := HGI.out; have := HE.out.lt; injection e with e; simp at e; omega)
      have HB6 := Aside0.mk hib6
      have HR6 := Aside0.mk hr6
      clear hg6 hr6 hib5 hib6 hcm5
      go_wp2
      go_roundw
      case rel => exact ⟨t + 1, congrArg _ (wS (by have := HLT.out; have := HL.out; omega)), ⟨HLT.out⟩, ⟨HG6.out⟩, ⟨HB6.out⟩, ⟨by rw [clsTo_succ, ← HSD.out, HX.out, HV.out, Bool.not_false, if_pos rfl]; exact HR6.out⟩⟩
      case measure => have := HLT.out; have := HL.out; rw [wS (by omega)]; simp [intOf]; omega
   ·have s1 : decide ((t : Int) < (L.length : Int)) = false := decide_eq_false (by omega)
    have s2 : decide (t < L.length) = false := decide_eq_false hlt
    have HTL := Aside0.mk (show t = L.length from by have := HT.out; omega)
    have h4 : w.heap.size < wr.heap.size := World.block_lt_of_cell? wr _ hib
    have HNB := Aside0.mk (show wr.heap.size ≠ Br from by have := HE3.out.lt; omega)
    have HWL := Aside0.mk h4
    have HL6 := Aside0.mk (show L.length ≤ 6 from by have := HL.out; omega)
    clear h4 hlt hcw
    have hm0 : ∀ W, wr.grownBy W (some Br) → W.cell? ⟨Bm, 0, none⟩ = some (.func (.func 184) #[] #[.pointer (some ⟨Bw, 0, none⟩), .pointer (some ⟨Bo, 0, none⟩), .pointer (some ⟨Bm, 0, none⟩)]) := fun W hg => (HE3.out.grown hg).cm
    have hi0 : ∀ W, wr.grownBy W (some Br) → W.cell? ⟨w.heap.size, 0, none⟩ = some (.int .i64 (i : Int)) := fun W hg => hg.cell HB.out (fun e => by have := HE.out.lt; injection e with e; simp at e; omega)
    have HRI := Aside0.mk (show ∀ (W : World), wr.grownBy W none → W.heap[Br]? = some (.cells (nums .i64 (clsTo (fun i a => crossB l0 a i) d i L out t)).toArray 2 (0, 0)) from fun W hg => (hg.block Br HE3.out.lt (by simp)).trans HH.out)
    have HCALL := Aside0.mk (show ∀ (A2 : Option Addr) (c2 : Nat) (w2 : World), wr.grownBy w2 none → Kd.F (Kd.slice 2 (Kd.int .i64)) w2 (fun k => k ≠ Br) A2 (L.map ints ++ [[(i : Int)]]).length (L.map ints ++ [[(i : Int)]]) → (L.map ints ++ [[(i : Int)]]).length ≤ c2 →
      Calls Try.prog 184 #[.int .i64 ((i + 1 : Nat) : Int), .slice A2 (L.length + 1) c2, .pointer (some ⟨Bw, 0, none⟩), .pointer (some ⟨Bo, 0, none⟩), .pointer (some ⟨Bm, 0, none⟩)] w2 fun e w' => e = .returned (.tuple #[]) ∧ wr.grownBy w' (some Br) ∧ w'.heap[Br]? = some (.cells (nums .i64 (clsP (fun i a => crossB l0 a i) d (i + 1) (L ++ [[i]]) (clsTo (fun i a => crossB l0 a i) d i L out t))).toArray 2 (0, 0)) from by
     intro A2 c2 w2 hg hf hl
     refine calls_args (as' := #[.int .i64 ((i + 1 : Nat) : Int), .slice A2 (L ++ [[i]]).length c2, .pointer (some ⟨Bw, 0, none⟩), .pointer (some ⟨Bo, 0, none⟩), .pointer (some ⟨Bm, 0, none⟩)]) (by simp) ?_
     refine (HIH.out (i + 1) (L ++ [[i]]) _ A2 c2 w2 (by have := HI.out; omega) (HE3.out.grown (grown_of_none hg _)) (by rw [clsTo_len, HO.out]) (HRI.out _ hg) (new_small HS.out) (by simp; have := HL.out; omega) (by simpa [ints] using hf) (by simpa using hl)).mono ?_
     rintro e w3 ⟨rfl, hg3, hr3⟩
     exact ⟨rfl, grown_trans (grown_of_none hg _) hg3, hr3⟩)
    go_wp2_with fail
    go_region_held3 (fun W => wr.grownBy W (some Br)) (repeat (first | assumption | exact grown_refl _ _ | (with_reducible refine grown_alloc ?_ _) | (with_reducible refine grown_drewN ?_ _) | (with_reducible refine grown_drew ?_))) (first
     | (refine goes_ Try.func190 (by kernel_rfl) rfl #[.slice A L.length c] (by rfl) rfl rfl (by simp [Act.eval, Act.put]) ?_; refine (slices_Clip_rows_int64.calls A L.length c _ HC.out).mono ?_; rintro e w2 ⟨rfl, rfl⟩; refine ⟨_, rfl, ?_⟩)
     | (refine callv_ Try.func184 (by kernel_rfl) rfl #[.pointer (some ⟨Bw, 0, none⟩), .pointer (some ⟨Bo, 0, none⟩), .pointer (some ⟨Bm, 0, none⟩)] #[.int .i64 ((i + 1 : Nat) : Int), .slice A2 (L.length + 1) c2] _ (by rfl) rfl rfl ?q1 ?q2 rfl ?_; (case q1 => simp [Act.eval, Act.put]); (case q2 => simp [Act.eval, Act.put]; exact W1.out); refine (HCALL.out A2 c2 w2 HGN.out HF2.out HL2.out).mono ?_; rintro e w3 ⟨rfl, hg3, hr3⟩; refine ⟨_, rfl, ?_⟩; have HG3 := Aside0.mk (grown_trans HG.out hg3); have HR3 := Aside0.mk hr3; clear hr3)
     | (refine step_append_full_rows (Kd.slice 2 (Kd.int .i64)) rfl rfl (.tmp 52) (.tmp 55) 23 22 (.slice none 0 0) 24 rfl Try.underlying23 info_rowsc rfl (fun k => k ≠ Br) A L.length (wr.heap.size + 1) (L.map ints) [(i : Int)] (.slice (some ⟨wr.heap.size, 0, none⟩) 1 1) ?p1 ?p2 ?p3 ?p4 ?p5 ?p6 ?p7 ?_; (case p1 => simp [Act.eval, Act.put]); (case p2 => simp [Act.eval, Act.put]); (case p3 => repeat (first | exact HF3.out | (with_reducible refine Kd.F_alloc ?_ _) | (with_reducible refine Kd.F_drewN ?_ _) | (with_reducible refine Kd.F_drew ?_))); (case p4 => repeat (first | exact new_at (by simp) | (with_reducible refine blk_alloc ?_ _) | (with_reducible refine blk_drewN ?_ _) | (with_reducible refine blk_drew ?_))); (case p5 => exact Kd.FK_slice_mk (c := 1) (by simp) (F_of_block (e := 2) (by repeat (first | exact new_at (by simp) | (with_reducible refine blk_alloc ?_ _) | (with_reducible refine blk_drewN ?_ _) | (with_reducible refine blk_drew ?_))) rfl (by simp [maxLen]) HNB.out)); (case p6 => have := HL6.out; omega); (case p7 => have := HL6.out; omega); intro v1 w2 ho2 hg2; obtain ⟨A2, c2, rfl⟩ := Kd.N_slice ho2; have HGN := Aside0.mk (grown_trans (show wr.grownBy _ none from by repeat (first | exact grown_refl _ _ | (with_reducible refine grown_alloc ?_ _) | (with_reducible refine grown_drewN ?_ _) | (with_reducible refine grown_drew ?_))) hg2); have HF2 := Aside0.mk (Kd.F_mono (ok' := fun k => k ≠ Br) (Kd.N_F ho2) (fun q hq => by rcases hq with hq | hq; exact hq; have := HE3.out.lt; simp at hq; omega)); have HL2 := Aside0.mk (Kd.N_reads' ho2).2.1; clear ho2 hg2; have hgs2 := grown_of_none HGN.out (some Br)))
    all_goals
     go_wp2_with fail
     go_end0
     refine ⟨rfl, HG3.out, ?_⟩
     have h := HR3.out
     rw [HTL.out] at h
     rw [clsP]
     exact h
set_option maxHeartbeats 8000000 in
set_option maxRecDepth 100000 in
theorem impl_classes.calls (A0 : Option Addr) (c0 : Nat) (l0 : List Int) (r : List Int) (w : World) (hr0 : Kd.C (Kd.int .i64) w A0 l0.length l0) (hc0 : l0.length ≤ c0) (h : impl_classes.f l0 = some r) :
  Calls Try.prog 133 #[.slice A0 l0.length c0] w fun e w' => ∃ v0_ : Value, e = .returned v0_ ∧ Kd.R (Kd.int .i64) 2 w' w.heap.size (fun _ => True) v0_ r ∧ Below w.heap.size w w' := by
 have hf : isW l0 = true ∧ r = classV l0 := by
  unfold impl_classes.f at h
  by_cases hk : isW l0 = true
  ·rw [if_pos hk] at h; exact ⟨hk, (Option.some.inj h).symm⟩
  ·rw [if_neg hk] at h; exact absurd h (by simp)
 have hw := (isW_iff l0).1 hf.1
 have hle := hw.le
 have HW := Aside0.mk hw
 have HRR := Aside0.mk hf.2
 obtain ⟨n, hn⟩ : ∃ n, n = l0.length / 2 := ⟨_, rfl⟩
 have hch : impl_chords.f l0 = some (n : Int) := by rw [hn]; exact chords_f l0 hle
 obtain ⟨m, hm⟩ : ∃ m, m = n + 1 := ⟨_, rfl⟩
 have CH := Aside0.mk hch
 have HN := Aside0.mk hn
 have HM := Aside0.mk hm
 have hn6 : n ≤ 6 := by omega
 have hmk := make_ints (P := Try.prog) Try.underlying22 info2 ((n : Int) + 1) m (by omega) (by omega)
 have HR := Aside0.mk hr0
 have HC := Aside0.mk hc0
 clear hr0 hc0 h hf hw hle hch hn hm
 have hmf : ∀ (fn : Fn) (first cap : Array Value) (w : World), (Instr.makeFunc fn first cap).run Try.prog w = .ok (.func fn first cap) w := fun _ _ _ _ => rfl
 go_enter Try.func133, Try.ntmps133
 go_wp2_with (first | (go_at_call 173; refine (impl_chords.calls A0 c0 l0 _ _ (Kd.C_alloc HR.out _) HC.out CH.out).mono ?_; rintro e w' ⟨rfl, ⟨nd, rfl⟩⟩))
 refine (classes_1 l0 HW.out A0 c0 n m (w.heap.size + 1 + 1) (w.heap.size + 1 + 1 + 1) w.heap.size (w.heap.size + 1) HN.out HM.out HC.out n 0 [] (List.replicate m 0) none 0 _ (by omega) ?he (by simp) ?hh (by simp) (by simp) (Kd.F_nil _ _ _) (Nat.le_refl _)).mono ?_
 case he =>
  exact ⟨cell1 (by repeat (first | exact new_at (by simp) | refine blk_alloc ?_ _ | refine blk_drewN ?_ _)), cell1 (by repeat (first | exact new_at (by simp) | refine blk_alloc ?_ _ | refine blk_drewN ?_ _)), cell1 (by repeat (first | exact new_at (by simp) | refine blk_alloc ?_ _ | refine blk_drewN ?_ _)), by omega, by omega, by omega, by repeat (first | exact Kd.F_mono (F_of_C HR.out) (fun k hk => by omega) | refine Kd.F_alloc ?_ _ | refine Kd.F_drewN ?_ _), by simp⟩
 case hh => repeat (first | exact new_at (by simp) | refine blk_alloc ?_ _ | refine blk_drewN ?_ _)
 rintro e w2 ⟨rfl, hg, hr⟩
 have h2 := hg.cell (a := ⟨w.heap.size + 1 + 1, 0, none⟩) (v := .slice (some ⟨w.heap.size + 1, 0, none⟩) m m) (cell1 (by repeat (first | exact new_at (by simp) | refine blk_alloc ?_ _ | refine blk_drewN ?_ _))) (by simp)
 have HG := Aside0.mk hg
 have HH := Aside0.mk hr
 clear hg hr
 go_wp2
 go_ret
 refine ⟨_, rfl, ?_, ?_⟩
 ·have := HH.out
  rw [HRR.out, classV, ← HN.out, ← HM.out]
  exact R_of_block this (by rw [clsP_len]; simp) (by have := HM.out; unfold maxLen; omega) (by omega)
 ·exact below_grown (by repeat (first | exact Below.refl _ _ | apply below_alloc | apply pw_below_drewN)) HG.out (by omega)
end Go.Proofs.Ytnlhhbnoccobmaa.F
end
section
namespace Go.Proofs.Ytnlhhbnoccobmaa.F
open Go.RowKit Go.Proofs.YtnlhhbnoccobmaaW.PrintWords Go.Proofs.YtnlhhbnoccobmaaW.PrintLast Go.Proofs.YtnlhhbnoccobmaaW.PrintMore
attribute [local go_sem] max2_int min2_int max_two min_two max_three min_three max_four min_four   
set_option linter.unusedVariables false
set_option linter.unusedSimpArgs false
def impl_times.l0 : Nat → Int → List Int → List Int → Int → Int → Option (List Int)
 | 0, _, _, _, _, _ => none
 | k + 1, x1, x5, x12, x13, x14 => if x14 < x13 then (if 0 ≤ x14 then (if x14 < (x12.length : Int) then (if 0 ≤ (wrap64 (x14 + 1)) then (if (wrap64 (x14 + 1)) < (x5.length : Int) then ((some (x5.set ((wrap64 (x14 + 1)) : Int).toNat (wrap64 ((rd x5 (wrap64 (x14 + 1))) + (rd x12 x14))) : List Int)).bind fun y1741006 => (if x14 < (x5.length : Int) then (impl_times.l0 k x1 (y1741006.set (x14 : Int).toNat (wrap64 ((rd y1741006 x14) - (wrap64 (x1 * (rd x12 x14)))))) x12 x13 (wrap64 (x14 + 1))) else (none))) else (none)) else (none)) else (none)) else (none)) else (some x5)
def impl_times.f (k : Nat) (l0 : List Int) (a1 : Int) : Option (List Int) := if 0 ≤ (wrap64 ((l0.length : Int) + 1)) then (if (wrap64 ((l0.length : Int) + 1) : Int).toNat ≤ 35184372088832 then (impl_times.l0 k a1 (List.replicate (wrap64 ((l0.length : Int) + 1) : Int).toNat 0) l0 (l0.length : Int) 0) else (none)) else (none)
theorem impl_times.mono_l : ∀ k, (∀ y0 y1 y2 y3 y4, LeO (impl_times.l0 k y0 y1 y2 y3 y4) (impl_times.l0 (k + 1) y0 y1 y2 y3 y4))
 | 0 => fun _ _ _ _ _ r h => by simp [impl_times.l0] at h
 | k + 1 => by
  have ih0 := impl_times.mono_l k
  ·intro y0 y1 y2 y3 y4
   unfold impl_times.l0
   repeat' first
   | (with_reducible exact ih0 _ _ _ _ _)
   | (with_reducible exact LeO.refl _)
   | (with_reducible exact LeO.none _)
   | (with_reducible refine LeO.ite ?_ ?_)
   | (with_reducible refine LeO.bind ?_ (fun _ => ?_))
   | exact ih0 _ _ _ _ _
   | exact LeO.none _
   | refine LeO.ite ?_ ?_
   | refine LeO.bind ?_ (fun _ => ?_)
theorem impl_times.mono : ∀ a0 a1 k, LeO (impl_times.f k a0 a1) (impl_times.f (k + 1) a0 a1) := by
 intro a0 a1 k
 have ih0 := impl_times.mono_l k
 unfold impl_times.f
 repeat' first
   | (with_reducible exact ih0 _ _ _ _ _)
   | (with_reducible exact LeO.refl _)
   | (with_reducible exact LeO.none _)
   | (with_reducible refine LeO.ite ?_ ?_)
   | (with_reducible refine LeO.bind ?_ (fun _ => ?_))
   | exact ih0 _ _ _ _ _
   | exact LeO.none _
   | refine LeO.ite ?_ ?_
   | refine LeO.bind ?_ (fun _ => ?_)
set_option maxHeartbeats 8000000 in
set_option maxRecDepth 100000 in
theorem impl_times.calls (k : Nat) (A0 : Option Addr) (c0 : Nat) (l0 : List Int) (a1 : Int) (r : List Int) (w : World) (hr0 : Kd.C (Kd.int .i64) w A0 l0.length l0) (hc0 : l0.length ≤ c0) (h : impl_times.f k l0 a1 = some r) :
  Calls Try.prog 174 #[.slice A0 l0.length c0, .int .i64 a1] w fun e w' => ∃ v0_ : Value, e = .returned (v0_) ∧ Kd.R (Kd.int .i64) 2 w' w.heap.size (fun _ => True) v0_ r ∧ Below w.heap.size w w' := by
 have HR0 := Aside0.mk hr0
 have HC0 := Aside0.mk hc0
 clear hr0 hc0
 have HB := Aside0.mk (Below.refl w.heap.size w)
 have H : (if 0 ≤ (wrap64 ((l0.length : Int) + 1)) then (if (wrap64 ((l0.length : Int) + 1) : Int).toNat ≤ 35184372088832 then (impl_times.l0 k a1 (List.replicate (wrap64 ((l0.length : Int) + 1) : Int).toNat 0) l0 (l0.length : Int) 0) else (none)) else (none)) = some r := h
 clear h
 obtain ⟨ji3, hji3⟩ : ∃ j_ : Int, (wrap64 ((l0.length : Int) + 1)) = j_ := ⟨_, rfl⟩
 replace H : (if 0 ≤ (ji3) then (if (ji3 : Int).toNat ≤ 35184372088832 then (impl_times.l0 k a1 (List.replicate (ji3 : Int).toNat 0) l0 (l0.length : Int) 0) else (none)) else (none)) = some r := by first | (rw [hji3] at H; exact H) | (simp only [hji3] at H ⊢; exact H)
 have hji3w : (IntKind.i64.wrap ((l0.length : Int) + 1)) = ji3 := (i64_w _).trans hji3
 by_cases c4 : 0 ≤ (ji3)
 ·rw [if_pos c4] at H
  have c4b0 := eq_true c4
  have c4b1 : decide (0 ≤ (ji3)) = true := decide_eq_true c4
  clear c4
  by_cases c5 : (ji3 : Int).toNat ≤ 35184372088832
  ·rw [if_pos c5] at H
   have c5b0 := eq_true c5
   have c5b1 : decide ((ji3 : Int).toNat ≤ 35184372088832) = true := decide_eq_true c5
   clear c5
   obtain ⟨y1741001, hy1741001⟩ : ∃ y_ : List Int, y_ = (List.replicate (ji3 : Int).toNat 0) := ⟨_, rfl⟩
   replace H : (impl_times.l0 k a1 y1741001 l0 (l0.length : Int) 0) = some r := by first | (rw [hy1741001]; with_reducible exact H) | (have H2_ := (Option.bind_some _ _).symm.trans H; rw [hy1741001]; with_reducible exact H2_) | (have H2_ := (Option.bind_some _ _).symm.trans H; with_reducible exact H2_) | with_reducible exact H | (rw [hy1741001]; exact H) | exact H
   have Ny1741001 := Aside0.mk hy1741001
   clear hy1741001
   have H' := Aside0.mk H
   clear H
   go_enter Try.func174, Try.ntmps174
   go_wp2_with (first | ((with_reducible refine gate_dst (N := 11) rfl ?_); refine Kd.R_make (Kd.int .i64) _ 2 rfl (N := 11) rfl 22 _ _ rfl ji3 rfl rfl Try.underlying22 (.int .i64 0) 8 info2 rfl (by decide) (by omega) 0 (ok := fun _ => True) (okp := fun _ => True) rfl (fun _ hk => hk) trivial (of_decide_eq_true (by first | (with_reducible assumption) | assumption)) (Nat.le_trans (Nat.mul_le_mul_right _ (of_decide_eq_true (by first | (with_reducible assumption) | assumption) : ji3.toNat ≤ 35184372088832)) (by omega)) (Below.refl _ _) (Nat.le_refl _) ?_; intro v1741002 w6 ho7 hb hg_ hnew_; clear hg_ hnew_; (first | rw [← Ny1741001.out] at ho7 | (simp only [Int.reduceToNat] at ho7; rw [← Ny1741001.out] at ho7)); have n0_ := Aside0.mk (Kd.R_lower ho7 (below_size (by repeat (first | (with_reducible first | exact HB.out | apply below_alloc | apply pw_below_drewN | apply below_drew1) | exact HB.out)))); have n1_ := Aside0.mk (below_step (by repeat (first | (with_reducible first | exact HB.out | apply below_alloc | apply pw_below_drewN | apply below_drew1) | exact HB.out)) hb); clear HB; have HO1741003 := n0_; have HB := n1_; clear n0_ n1_; clear hb ho7))
   go_loopg [14] k (fun kq v14 w' => ∃ (x5_1 : List Int) (x14_1 : Int), v14 = .int .i64 x14_1 ∧ Aside0 (impl_times.l0 kq a1 x5_1 l0 (l0.length : Int) x14_1 = some r) ∧ Aside0 (kq ≤ k) ∧ Aside0 (Kd.R (Kd.int .i64) 2 w' w.heap.size (fun _ => True) v1741002 x5_1) ∧ Aside0 (Below w.heap.size w w'))
   case atStart => exact ⟨(y1741001), (0), (by first | rfl | (simp; done) | (simp [*]; done)), H', ⟨Nat.le_refl _⟩, ⟨by (with_reducible repeat (first | apply Kd.R_alloc | apply Kd.R_drewN | apply Kd.R_drew)); exact HO1741003.out⟩, ⟨by repeat (first | (with_reducible first | exact HB.out | apply below_alloc | apply pw_below_drewN | apply below_drew1) | exact HB.out)⟩⟩
   case round =>
    clear H'
    try clear c1
    try clear p2
    try clear c4
    try clear c4b0
    try clear c4b1
    try clear c5
    try clear c5b0
    try clear c5b1
    try clear p6
    obtain ⟨x5_1, x14_1, rfl, HA, HK1, HO_5, HB⟩ := hrel
    cases gk with
    | zero => exact absurd HA.out (by simp [impl_times.l0])
    | succ k1 =>
     have H := HA.out
     clear HA
     simp only [impl_times.l0] at H
     by_cases c8 : x14_1 < (l0.length : Int)
     ·rw [if_pos c8] at H
      have c8b0 : decide (x14_1 < (l0.length : Int)) = true := decide_eq_true c8
      clear c8
      by_cases c9 : 0 ≤ x14_1
      ·rw [if_pos c9] at H
       have c9b0 : decide (0 ≤ x14_1) = true := decide_eq_true c9
       clear c9
       by_cases c10 : x14_1 < (l0.length : Int)
       ·rw [if_pos c10] at H
        have c10b0 : decide (x14_1 < (l0.length : Int)) = true := decide_eq_true c10
        clear c10
        obtain ⟨ji11, hji11⟩ : ∃ j_ : Int, (wrap64 (x14_1 + 1)) = j_ := ⟨_, rfl⟩
        replace H : (if 0 ≤ (ji11) then (if (ji11) < (x5_1.length : Int) then ((some (x5_1.set ((ji11) : Int).toNat (wrap64 ((rd x5_1 (ji11)) + (rd l0 x14_1))) : List Int)).bind fun y1741006 => (if x14_1 < (x5_1.length : Int) then (impl_times.l0 k1 a1 (y1741006.set (x14_1 : Int).toNat (wrap64 ((rd y1741006 x14_1) - (wrap64 (a1 * (rd l0 x14_1)))))) l0 (l0.length : Int) ji11) else (none))) else (none)) else (none)) = some r := by first | (rw [hji11] at H; exact H) | (simp only [hji11] at H ⊢; exact H)
        have hji11w : (IntKind.i64.wrap (x14_1 + 1)) = ji11 := (i64_w _).trans hji11
        by_cases c12 : 0 ≤ (ji11)
        ·rw [if_pos c12] at H
         have c12b0 : decide (0 ≤ (ji11)) = true := decide_eq_true c12
         clear c12
         by_cases c13 : (ji11) < (x5_1.length : Int)
         ·rw [if_pos c13] at H
          have c13b0 : decide ((ji11) < (x5_1.length : Int)) = true := decide_eq_true c13
          clear c13
          obtain ⟨y1741006, hy1741006⟩ : ∃ y_ : List Int, y_ = (x5_1.set ((ji11) : Int).toNat (wrap64 ((rd x5_1 (ji11)) + (rd l0 x14_1)))) := ⟨_, rfl⟩
          replace H : (if x14_1 < (x5_1.length : Int) then (impl_times.l0 k1 a1 (y1741006.set (x14_1 : Int).toNat (wrap64 ((rd y1741006 x14_1) - (wrap64 (a1 * (rd l0 x14_1)))))) l0 (l0.length : Int) ji11) else (none)) = some r := by first | (rw [hy1741006]; with_reducible exact H) | (have H2_ := (Option.bind_some _ _).symm.trans H; rw [hy1741006]; with_reducible exact H2_) | (have H2_ := (Option.bind_some _ _).symm.trans H; with_reducible exact H2_) | with_reducible exact H | (rw [hy1741006]; exact H) | exact H
          have Ny1741006 := Aside0.mk hy1741006
          clear hy1741006
          by_cases c15 : x14_1 < (x5_1.length : Int)
          ·rw [if_pos c15] at H
           have c15b0 : decide (x14_1 < (x5_1.length : Int)) = true := decide_eq_true c15
           clear c15
           obtain ⟨y1741008, hy1741008⟩ : ∃ y_ : List Int, y_ = (y1741006.set (x14_1 : Int).toNat (wrap64 ((rd y1741006 x14_1) - (wrap64 (a1 * (rd l0 x14_1)))))) := ⟨_, rfl⟩
           replace H : (impl_times.l0 k1 a1 y1741008 l0 (l0.length : Int) ji11) = some r := by first | (rw [hy1741008]; with_reducible exact H) | (have H2_ := (Option.bind_some _ _).symm.trans H; rw [hy1741008]; with_reducible exact H2_) | (have H2_ := (Option.bind_some _ _).symm.trans H; with_reducible exact H2_) | with_reducible exact H | (rw [hy1741008]; exact H) | exact H
           have Ny1741008 := Aside0.mk hy1741008
           clear hy1741008
           have H' := Aside0.mk H
           clear H
           have p1741004 : 0 ≤ (x14_1 : Int) := of_decide_eq_true (by first | (with_reducible assumption) | assumption)
           have q1741004 : x14_1 < (l0.length : Int) := of_decide_eq_true (by first | (with_reducible assumption) | assumption)
           obtain ⟨ad1741004, e1741004, hx1741004_0⟩ := Kd.at_int HR0.out x14_1 p1741004 q1741004
           cases e1741004
           replace hx1741004_0 := (HB.out.cell (World.block_lt_of_cell? w _ hx1741004_0)).trans hx1741004_0
           replace p1741004 := eq_true p1741004
           replace q1741004 := eq_true q1741004
           obtain ⟨Ao17, co17, eo17⟩ := Kd.R_slice HO_5.out
           subst eo17
           have p1741005 : 0 ≤ ((ji11) : Int) := of_decide_eq_true (by first | (with_reducible assumption) | assumption)
           have q1741005 : (ji11) < (x5_1.length : Int) := of_decide_eq_true (by first | (with_reducible assumption) | assumption)
           obtain ⟨ad1741005, e1741005, hx1741005_0⟩ := Kd.at_int (Kd.R_reads' HO_5.out).2.2 (ji11) p1741005 q1741005
           cases e1741005
           replace p1741005 := eq_true p1741005
           replace q1741005 := eq_true q1741005
           have p14 : 0 ≤ ((ji11) : Int) := of_decide_eq_true (by first | (with_reducible assumption) | assumption)
           have q14 : ((ji11) : Int) < ((x5_1.length : Int) : Int) := of_decide_eq_true (by first | (with_reducible assumption) | assumption)
           obtain ⟨go14, co14, eo14, gb14, gl14, cl14, HG14⟩ := Kd.R_form HO_5.out (by omega)
           (first | cases eo14 | (injection eo14 with ea_ en_ ec_; (first | subst ea_ | (injection ea_ with ea_; subst ea_)); subst ec_; clear en_))
           have GB14 := Aside0.mk gb14
           have GG14 := Aside0.mk HG14
           clear gb14 gl14 HG14
           (first | simp only [add_plain] at hx1741005_0 | skip)
           obtain ⟨hx14_0, hf14_0⟩ := Kd.R_celln 0 HO_5.out ((ji11) : Int) p14 q14
           replace p14 := eq_true p14
           replace q14 := eq_true q14
           have HP18 := Kd.R_putg HO_5.out ((ji11) : Int) (wrap64 ((rd x5_1 (ji11)) + (rd l0 x14_1)))
           go_wp2_with (first | ((with_reducible refine gate_store (t := 2) (p := 26) rfl ?_); refine store_event (t := 2) (p := 26) (v := ?vo_w19) (w1 := (wr.setCell ⟨go14, ((ji11) : Int).toNat, none⟩ (.int .i64 (wrap64 ((rd x5_1 (ji11)) + (rd l0 x14_1)))))) ?hg ?ho ?hn ?hr ?_; (case ho => rfl); (case hg => rfl); (case hn => rfl); (case hr => first | (go_simp; done) | (go_simp; rfl)); intro w19 hw; have hg : wr.grownBy w19 (some go14) := (by rw [hw]; exact HP18.2); have hp_ : Kd.R (Kd.int .i64) 2 w19 w.heap.size (fun _ => True) (.slice (some ⟨go14, 0, none⟩) x5_1.length co17) y1741006 := (by rw [hw, Ny1741006.out]; exact HP18.1); clear HP18; have n0_ := Aside0.mk (hp_); have n1_ := Aside0.mk ((by rw [hw]; exact below_set (HB.out) GB14.out : Below w.heap.size w w19)); clear HO_5; clear HB; have HO_5 := n0_; have HB := n1_; clear n0_ n1_; clear hg hw hp_; have p1741007 : 0 ≤ (x14_1 : Int) := of_decide_eq_true (by first | (with_reducible assumption) | assumption); have q1741007 : x14_1 < (y1741006.length : Int) := (by have h_ : (x14_1 : Int) < ((x5_1.length : Int) : Int) := of_decide_eq_true (by first | (with_reducible assumption) | assumption); first | (have e_ := (Kd.R_reads' HO_5.out).1; omega) | simpa only [Ny1741006.out, List.length_set] using h_); have ql1741007 : ((x14_1 : Int) < ((x5_1.length : Int) : Int)) = True := eq_true (of_decide_eq_true (by first | (with_reducible assumption) | assumption)); obtain ⟨ad1741007, e1741007, hx1741007_0⟩ := Kd.at_int (Kd.R_reads' HO_5.out).2.2 x14_1 p1741007 q1741007; obtain rfl : (⟨go14, 0, none⟩ : Addr) = ad1741007 := (by injection e1741007); (first | simp only [add_plain] at hx1741007_0 | simp only [add_at] at hx1741007_0 | simp only [Addr.add, Nat.zero_add] at hx1741007_0 | skip); replace p1741007 := eq_true p1741007; replace q1741007 := eq_true q1741007; have p16 : 0 ≤ (x14_1 : Int) := of_decide_eq_true (by first | (with_reducible assumption) | assumption); have q16 : (x14_1 : Int) < ((x5_1.length : Int) : Int) := of_decide_eq_true (by first | (with_reducible assumption) | assumption); obtain ⟨hx16_0, hf16_0⟩ := Kd.R_celln 0 HO_5.out (x14_1 : Int) p16 q16; replace p16 := eq_true p16; replace q16 := eq_true q16; obtain ⟨hy20_, hz20_⟩ := Kd.R_celln 0 HO_5.out (x14_1 : Int) (of_decide_eq_true (by first | (with_reducible assumption) | assumption)) (of_decide_eq_true (by first | (with_reducible assumption) | assumption)); have HP20 := Kd.R_putg HO_5.out (x14_1 : Int) (wrap64 ((rd y1741006 x14_1) - (wrap64 (a1 * (rd l0 x14_1)))))) | ((with_reducible refine gate_store (t := 2) (p := 35) rfl ?_); refine store_event (t := 2) (p := 35) (v := ?vo_w21) (w1 := (w19.setCell ⟨go14, (x14_1 : Int).toNat, none⟩ (.int .i64 (wrap64 ((rd y1741006 x14_1) - (wrap64 (a1 * (rd l0 x14_1)))))))) ?hg ?ho ?hn ?hr ?_; (case ho => rfl); (case hg => rfl); (case hn => rfl); (case hr => first | (go_simp; done) | (go_simp; rfl)); intro w21 hw; have hg : w19.grownBy w21 (some go14) := (by rw [hw]; exact HP20.2); have hp_ : Kd.R (Kd.int .i64) 2 w21 w.heap.size (fun _ => True) (.slice (some ⟨go14, 0, none⟩) x5_1.length co17) y1741008 := (by rw [hw, Ny1741008.out]; exact HP20.1); clear HP20; have n0_ := Aside0.mk (hp_); have n1_ := Aside0.mk ((by rw [hw]; exact below_set (HB.out) GB14.out : Below w.heap.size w w21)); clear HO_5; clear HB; have HO_5 := n0_; have HB := n1_; clear n0_ n1_; clear hg hw hp_))
           go_roundg k1
           case measure => have := HK1.out; omega
           case rel => exact ⟨(y1741008), (ji11), (by first | rfl | (simp; done) | (simp only [← hji11] <;> (first | rfl | simp)) | (simp [*]; done)), H', ⟨by have := HK1.out; omega⟩, ⟨by (with_reducible repeat (first | apply Kd.R_alloc | apply Kd.R_drewN | apply Kd.R_drew)); exact HO_5.out⟩, ⟨by repeat (first | (with_reducible first | exact HB.out | apply below_alloc | apply pw_below_drewN | apply below_drew1) | exact HB.out)⟩⟩
          ·rw [if_neg c15] at H
           exact absurd H (by simp)
         ·rw [if_neg c13] at H
          exact absurd H (by simp)
        ·rw [if_neg c12] at H
         exact absurd H (by simp)
       ·rw [if_neg c10] at H
        exact absurd H (by simp)
      ·rw [if_neg c9] at H
       exact absurd H (by simp)
     ·rw [if_neg c8] at H
      have c8b0 : decide (x14_1 < (l0.length : Int)) = false := decide_eq_false c8
      clear c8
      obtain rfl := Option.some.inj H
      go_wp2
      go_ret
      exact ⟨_, by first | rfl | (simp [errW_none, errW_some] <;> rfl) | (simp only [← hji3]; first | rfl | (simp [errW_none, errW_some] <;> rfl)) | (simp [*, errW_none, errW_some] <;> rfl), by (with_reducible repeat (first | apply Kd.R_alloc | apply Kd.R_drewN | apply Kd.R_drew)); exact HO_5.out, by repeat (first | (with_reducible first | exact HB.out | apply below_alloc | apply pw_below_drewN | apply below_drew1) | exact HB.out)⟩
  ·rw [if_neg c5] at H
   exact absurd H (by simp)
 ·rw [if_neg c4] at H
  exact absurd H (by simp)
end Go.Proofs.Ytnlhhbnoccobmaa.F
end
