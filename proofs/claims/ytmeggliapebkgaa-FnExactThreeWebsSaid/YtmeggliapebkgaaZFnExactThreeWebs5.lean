/- The row of the law FnExactThreeWebs, out of its plain law and the walk. -/
import Derived.Test.YtmeggliapebkgaaZFnExactThreeWebs4
import Derived.WalkSpells
import Derived.BigQuiet
import Derived.Deep.RegionLaw
import Derived.Lib.SmallJoins
import Derived.Deep.Matrix
import Derived.WalkKit
import Derived.ProofKit
import Derived.OpenShut
import Derived.Test.YtmeggliapebkgaaRows
import Derived.JoinedOf
import Derived.KernelRfl
import Derived.ShutString
import Derived.ChangeOld
import Derived.Below
import Derived.SizedLaws
section
namespace Go.Proofs.Ytmeggliapebkgaa.F
abbrev bqFx14_0 : Array Bool := #[false, false, false, false, false, false, false, false, false, false]
abbrev bqFx14_1 : Array Bool := #[true, false, false, false, false, false, false, false, false, false]
abbrev bqFx14_2 : Array Bool := #[true, true, false, false, false, false, false, false, false, false]
abbrev bqFx14_3 : Array Bool := #[true, true, true, false, false, false, false, false, false, false]
abbrev bqFx14_4 : Array Bool := #[true, true, true, false, true, false, false, false, false, false]
abbrev bqFx14_5 : Array Bool := #[true, true, true, false, true, true, false, false, false, false]
abbrev bqFx14_6 : Array Bool := #[true, true, true, false, true, true, true, false, false, false]
abbrev bqFx14_7 : Array Bool := #[true, true, true, true, true, true, true, false, false, false]
abbrev bqFx14_8 : Array Bool := #[true, true, true, true, true, true, true, true, false, false]
abbrev bqFx14_9 : Array Bool := #[true, true, true, true, true, true, true, true, true, false]
abbrev bqFx14_10 : Array Bool := #[true, true, true, true, true, true, true, true, true, true]
open Go.RowKit Go.Proofs.YtmeggliapebkgaaW.PrintWords Go.Proofs.YtmeggliapebkgaaW.PrintLast Go.Proofs.YtmeggliapebkgaaW.PrintMore
attribute [local go_sem] max2_int min2_int max_two min_two max_three min_three max_four min_four   
set_option linter.unusedVariables false
set_option linter.unusedSimpArgs false
def laws_eqWebS.l0 : Nat → List (S30) → List (S30) → Int → Option (Bool)
 | 0, _, _, _ => none
 | k + 1, x0, x1, x5 => if x5 < (x0.length : Int) then (if 0 ≤ x5 then (if x5 < (x1.length : Int) then ((laws_eqWeb.f k ((rd_T30 x0 x5).f0) ((rd_T30 x0 x5).f1) ((rd_T30 x1 x5).f0) ((rd_T30 x1 x5).f1)).bind fun t141003 => (if t141003 = true then (laws_eqWebS.l0 k x0 x1 (wrap64 (x5 + 1))) else (some false))) else (none)) else (none)) else (some true)
def laws_eqWebS.f (k : Nat) (l0 : List (S30)) (l1 : List (S30)) : Option (Bool) := if (l0.length : Int) = (l1.length : Int) then (laws_eqWebS.l0 k l0 l1 0) else (some false)
theorem laws_eqWebS.mono_l : ∀ k, (∀ y0 y1 y2, LeO (laws_eqWebS.l0 k y0 y1 y2) (laws_eqWebS.l0 (k + 1) y0 y1 y2))
 | 0 => fun _ _ _ r h => by simp [laws_eqWebS.l0] at h
 | k + 1 => by
  have ih0 := laws_eqWebS.mono_l k
  ·intro y0 y1 y2
   unfold laws_eqWebS.l0
   repeat' first
   | (with_reducible exact ih0 _ _ _)
   | (with_reducible exact laws_eqWeb.mono _ _ _ _ _)
   | (with_reducible exact LeO.refl _)
   | (with_reducible exact LeO.none _)
   | (with_reducible refine LeO.ite ?_ ?_)
   | (with_reducible refine LeO.bind ?_ (fun _ => ?_))
   | exact ih0 _ _ _
   | exact laws_eqWeb.mono _ _ _ _ _
   | exact LeO.none _
   | refine LeO.ite ?_ ?_
   | refine LeO.bind ?_ (fun _ => ?_)
theorem laws_eqWebS.mono : ∀ a0 a1 k, LeO (laws_eqWebS.f k a0 a1) (laws_eqWebS.f (k + 1) a0 a1) := by
 intro a0 a1 k
 have ih0 := laws_eqWebS.mono_l k
 unfold laws_eqWebS.f
 repeat' first
   | (with_reducible exact ih0 _ _ _)
   | (with_reducible exact laws_eqWeb.mono _ _ _ _ _)
   | (with_reducible exact LeO.refl _)
   | (with_reducible exact LeO.none _)
   | (with_reducible refine LeO.ite ?_ ?_)
   | (with_reducible refine LeO.bind ?_ (fun _ => ?_))
   | exact ih0 _ _ _
   | exact laws_eqWeb.mono _ _ _ _ _
   | exact LeO.none _
   | refine LeO.ite ?_ ?_
   | refine LeO.bind ?_ (fun _ => ?_)
def laws_eqWebS.T6 : Bool × List (List Nat × List Nat) := (true, [([], []), ([], []), ([0, 1], [0, 1]), ([2], [2]), ([], []), ([], []), ([4, 5], [4, 5]), ([6], [6]), ([3, 7], [3, 7]), ([8], [8])])
def laws_eqWebS.B6 : List Nat := [0, 0, 3, 7, 0, 0, 48, 112, 255, 511]
theorem laws_eqWebS.tab6 : rtab .any (opsOf Try.f14 6) = laws_eqWebS.T6 := by kernel_rfl
theorem laws_eqWebS.bits6 : waitsOk laws_eqWebS.T6.2 laws_eqWebS.B6 = true := by kernel_rfl
set_option maxHeartbeats 8000000 in
set_option maxRecDepth 100000 in
theorem laws_eqWebS.calls (k : Nat) (A0 : Option Addr) (c0 : Nat) (l0 : List (S30)) (A1 : Option Addr) (c1 : Nat) (l1 : List (S30)) (r : Bool) (w : World) (hr0 : Kd.C k30 w A0 l0.length l0) (hc0 : l0.length ≤ c0) (hr1 : Kd.C k30 w A1 l1.length l1) (hc1 : l1.length ≤ c1) (h : laws_eqWebS.f k l0 l1 = some r) :
  Calls Try.prog 14 #[.slice A0 l0.length c0, .slice A1 l1.length c1] w fun e w' => e = .returned (.bool r) ∧ Below w.heap.size w w' := by
 have hu30 := Try.underlying30
 have HR0 := Aside0.mk hr0
 have HC0 := Aside0.mk hc0
 clear hr0 hc0
 have HR1 := Aside0.mk hr1
 have HC1 := Aside0.mk hc1
 clear hr1 hc1
 have HB := Aside0.mk (Below.refl w.heap.size w)
 have H : (if (l0.length : Int) = (l1.length : Int) then (laws_eqWebS.l0 k l0 l1 0) else (some false)) = some r := h
 clear h
 by_cases c3 : (l0.length : Int) = (l1.length : Int)
 rotate_left
 ·rw [if_neg c3] at H
  have c3b0 : ((l0.length : Int) == (l1.length : Int)) = false := beq_eq_false_iff_ne.mpr c3
  have c3b1 : ((l0.length : Int) != (l1.length : Int)) = true := bne_iff_ne.mpr c3
  have c3b2 : (l0.length == l1.length) = false := by first | simpa using c3 | (simp at c3 ⊢; omega)
  obtain rfl := Option.some.inj H
  go_enter Try.func14, Try.ntmps14
  go_wp2
  go_ret
  exact ⟨by first | rfl | (simp [errW_none, errW_some] <;> rfl) | (simp [*, errW_none, errW_some] <;> rfl), by repeat (first | (with_reducible first | exact HB.out | apply below_alloc | apply pw_below_drewN | apply below_drew1) | exact HB.out)⟩
 rw [if_pos c3] at H
 have c3b0 : ((l0.length : Int) == (l1.length : Int)) = true := beq_iff_eq.mpr c3
 have c3b1 : ((l0.length : Int) != (l1.length : Int)) = false := bne_eq_false_iff_eq.mpr c3
 have c3b2 : (l0.length == l1.length) = true := by first | simpa using c3 | (simp at c3 ⊢; omega)
 clear c3
 have H' := Aside0.mk H
 clear H
 go_enter Try.func14, Try.ntmps14
 go_wp2
 go_loopg [5] k (fun kq v5 w' => ∃ (x5_1 : Int), v5 = .int .i64 x5_1 ∧ Aside0 (laws_eqWebS.l0 kq l0 l1 x5_1 = some r) ∧ Aside0 (kq ≤ k) ∧ Aside0 (Below w.heap.size w w'))
 case atStart => exact ⟨(0), (by first | rfl | (simp; done) | (simp [*]; done)), H', ⟨Nat.le_refl _⟩, ⟨by repeat (first | (with_reducible first | exact HB.out | apply below_alloc | apply pw_below_drewN | apply below_drew1) | exact HB.out)⟩⟩
 case round =>
  clear H'
  try clear c1
  try clear p2
  try clear c3
  try clear c3b0
  try clear c3b1
  try clear c3b2
  obtain ⟨x5_1, rfl, HA, HK1, HB⟩ := hrel
  cases gk with
  | zero => exact absurd HA.out (by simp [laws_eqWebS.l0])
  | succ k1 =>
   have H := HA.out
   clear HA
   simp only [laws_eqWebS.l0] at H
   by_cases c4 : x5_1 < (l0.length : Int)
   rotate_left
   ·rw [if_neg c4] at H
    have c4b0 : decide (x5_1 < (l0.length : Int)) = false := decide_eq_false c4
    clear c4
    obtain rfl := Option.some.inj H
    go_wp2
    go_ret
    exact ⟨by first | rfl | (simp [errW_none, errW_some] <;> rfl) | (simp [*, errW_none, errW_some] <;> rfl), by repeat (first | (with_reducible first | exact HB.out | apply below_alloc | apply pw_below_drewN | apply below_drew1) | exact HB.out)⟩
   rw [if_pos c4] at H
   have c4b0 : decide (x5_1 < (l0.length : Int)) = true := decide_eq_true c4
   clear c4
   by_cases c5 : 0 ≤ x5_1
   rotate_left
   ·rw [if_neg c5] at H
    exact absurd H (by simp)
   rw [if_pos c5] at H
   have c5b0 : decide (0 ≤ x5_1) = true := decide_eq_true c5
   clear c5
   by_cases c6 : x5_1 < (l1.length : Int)
   rotate_left
   ·rw [if_neg c6] at H
    exact absurd H (by simp)
   rw [if_pos c6] at H
   have c6b0 : decide (x5_1 < (l1.length : Int)) = true := decide_eq_true c6
   clear c6
   replace H := Option.bind_eq_some_iff.mp H
   obtain ⟨t141003, A70, H⟩ := H
   replace H : (if t141003 = true then (laws_eqWebS.l0 k1 l0 l1 (wrap64 (x5_1 + 1))) else (some false)) = some r := H
   have A7 := Aside0.mk A70
   clear A70
   by_cases c8 : t141003 = true
   rotate_left
   ·replace c8 := Bool.eq_false_iff.mpr c8
    subst c8
    have H1 : (some false) = some r := by rw [if_neg (show ¬ (false = true) by decide)] at H; exact H
    clear H
    have H := H1
    clear H1
    obtain rfl := Option.some.inj H
    try go_wp2
    have n0_ := Aside0.mk (below_drew1 HB.out)
    clear HB
    have HB := n0_
    clear n0_
    have p141001 : 0 ≤ (x5_1 : Int) := of_decide_eq_true (by first | (with_reducible assumption) | assumption)
    have q141001 : x5_1 < (l0.length : Int) := of_decide_eq_true (by first | (with_reducible assumption) | assumption)
    obtain ⟨ad141001, A141001_0, c141001_0, A141001_1, c141001_1, e141001, hx141001_0, hx141001_1, hl141001_0, hi141001_0, hl141001_1, hi141001_1⟩ := at_T30 HR0.out x5_1 p141001 q141001
    have hw141001_1 := hx141001_1
    have hw141001_0 := hx141001_0
    cases e141001
    replace hx141001_0 := (HB.out.cell (World.block_lt_of_cell? w _ hx141001_0)).trans hx141001_0
    replace hx141001_1 := (HB.out.cell (World.block_lt_of_cell? w _ hx141001_1)).trans hx141001_1
    have HR141001_0 := Aside0.mk hi141001_0
    have HC141001_0 := Aside0.mk hl141001_0
    clear hi141001_0 hl141001_0
    have HR141001_1 := Aside0.mk hi141001_1
    have HC141001_1 := Aside0.mk hl141001_1
    clear hi141001_1 hl141001_1
    replace p141001 := eq_true p141001
    replace q141001 := eq_true q141001
    have p141002 : 0 ≤ (x5_1 : Int) := of_decide_eq_true (by first | (with_reducible assumption) | assumption)
    have q141002 : x5_1 < (l1.length : Int) := of_decide_eq_true (by first | (with_reducible assumption) | assumption)
    obtain ⟨ad141002, A141002_0, c141002_0, A141002_1, c141002_1, e141002, hx141002_0, hx141002_1, hl141002_0, hi141002_0, hl141002_1, hi141002_1⟩ := at_T30 HR1.out x5_1 p141002 q141002
    have hw141002_1 := hx141002_1
    have hw141002_0 := hx141002_0
    cases e141002
    replace hx141002_0 := (HB.out.cell (World.block_lt_of_cell? w _ hx141002_0)).trans hx141002_0
    replace hx141002_1 := (HB.out.cell (World.block_lt_of_cell? w _ hx141002_1)).trans hx141002_1
    have HR141002_0 := Aside0.mk hi141002_0
    have HC141002_0 := Aside0.mk hl141002_0
    clear hi141002_0 hl141002_0
    have HR141002_1 := Aside0.mk hi141002_1
    have HC141002_1 := Aside0.mk hl141002_1
    clear hi141002_1 hl141002_1
    replace p141002 := eq_true p141002
    replace q141002 := eq_true q141002
    refine start_ (n := 10) (S := fun w' => w'.cell? (ad141001.add ((x5_1).toNat * 2)) = some (.slice A141001_0 ((rd_T30 l0 x5_1).f0).length c141001_0) ∧ w'.cell? ⟨(ad141001.add ((x5_1).toNat * 2)).block, (ad141001.add ((x5_1).toNat * 2)).off + 1, none⟩ = some (.slice A141001_1 ((rd_T30 l0 x5_1).f1).length c141001_1) ∧ w'.cell? (ad141002.add ((x5_1).toNat * 2)) = some (.slice A141002_0 ((rd_T30 l1 x5_1).f0).length c141002_0) ∧ w'.cell? ⟨(ad141002.add ((x5_1).toNat * 2)).block, (ad141002.add ((x5_1).toNat * 2)).off + 1, none⟩ = some (.slice A141002_1 ((rd_T30 l1 x5_1).f1).length c141002_1)) (ds := []) bqFx14_0 (by kernel_rfl) rfl rfl ⟨((HB.out.cell (World.block_lt_of_cell? w _ hw141001_0)).trans hw141001_0), ((HB.out.cell (World.block_lt_of_cell? w _ hw141001_1)).trans hw141001_1), ((HB.out.cell (World.block_lt_of_cell? w _ hw141002_0)).trans hw141002_0), ((HB.out.cell (World.block_lt_of_cell? w _ hw141002_1)).trans hw141002_1)⟩ (fun hHeld => ?_); refine with_tabW laws_eqWebS.tab6 laws_eqWebS.bits6 (fun HT_ HW_ => ?_)
    generalize wr.drew = w11 at HB HR141001_0 HR141001_1 HR141002_0 HR141002_1 hx141001_0 hx141001_1 hx141002_0 hx141002_1 hHeld ⊢
    refine pure_ (i := 0) (N := some 17) (v := ?_) (a' := ?_) bqFx14_1 rfl rfl (any_of HT_.out (by kernel_rfl)) (fun _ _ _ h => h) (Or.inl ⟨by rfl, ?_⟩) ?_ ?_
    rotate_left
    ·intro w'
     go_simp
     with_reducible rfl
    rotate_left
    ·simp only [Act.put, List.setIfInBounds_toArray, List.set_cons_zero, List.set_cons_succ, i64_w, i32_w]
     rfl
    refine pure_ (i := 1) (N := some 18) (v := ?_) (a' := ?_) bqFx14_2 rfl rfl (any_of HT_.out (by kernel_rfl)) (fun _ _ _ h => h) (Or.inl ⟨by rfl, ?_⟩) ?_ ?_
    rotate_left
    ·intro w'
     go_simp
     with_reducible rfl
    rotate_left
    ·simp only [Act.put, List.setIfInBounds_toArray, List.set_cons_zero, List.set_cons_succ, i64_w, i32_w]
     rfl
    refine pure_ (i := 2) (N := some 19) (v := ?_) (a' := ?_) bqFx14_3 rfl rfl (any_of HT_.out (by kernel_rfl)) (fun _ _ _ h => h) (Or.inl ⟨by rfl, ?_⟩) ?_ ?_
    rotate_left
    ·intro w'
     go_simp
     with_reducible rfl
    rotate_left
    ·simp only [Act.put, List.setIfInBounds_toArray, List.set_cons_zero, List.set_cons_succ, i64_w, i32_w]
     rfl
    refine pure_ (i := 4) (N := some 21) (v := ?_) (a' := ?_) bqFx14_4 rfl rfl (any_of HT_.out (by kernel_rfl)) (fun _ _ _ h => h) (Or.inl ⟨by rfl, ?_⟩) ?_ ?_
    rotate_left
    ·intro w'
     go_simp
     with_reducible rfl
    rotate_left
    ·simp only [Act.put, List.setIfInBounds_toArray, List.set_cons_zero, List.set_cons_succ, i64_w, i32_w]
     rfl
    refine pure_ (i := 5) (N := some 22) (v := ?_) (a' := ?_) bqFx14_5 rfl rfl (any_of HT_.out (by kernel_rfl)) (fun _ _ _ h => h) (Or.inl ⟨by rfl, ?_⟩) ?_ ?_
    rotate_left
    ·intro w'
     go_simp
     with_reducible rfl
    rotate_left
    ·simp only [Act.put, List.setIfInBounds_toArray, List.set_cons_zero, List.set_cons_succ, i64_w, i32_w]
     rfl
    refine pure_ (i := 6) (N := some 23) (v := ?_) (a' := ?_) bqFx14_6 rfl rfl (any_of HT_.out (by kernel_rfl)) (fun _ _ _ h => h) (Or.inl ⟨by rfl, ?_⟩) ?_ ?_
    rotate_left
    ·intro w'
     go_simp
     with_reducible rfl
    rotate_left
    ·simp only [Act.put, List.setIfInBounds_toArray, List.set_cons_zero, List.set_cons_succ, i64_w, i32_w]
     rfl
    refine take_ (i := 3) (N := some 20) (v := ?_) (a' := ?_) bqFx14_7 rfl rfl (take_ofW HT_.out HW_.out (by kernel_rfl)) (fun _ _ _ h => h) (Or.inl ⟨by rfl, ?_⟩) hHeld ?_ ?_
    rotate_left
    ·rintro w' ⟨s0, s1, s2, s3⟩
     go_simp
     with_reducible rfl
    rotate_left
    ·simp only [Act.put, List.setIfInBounds_toArray, List.set_cons_zero, List.set_cons_succ, i64_w, i32_w]
     rfl
    refine take_ (i := 7) (N := some 24) (v := ?_) (a' := ?_) bqFx14_8 rfl rfl (take_ofW HT_.out HW_.out (by kernel_rfl)) (fun _ _ _ h => h) (Or.inl ⟨by rfl, ?_⟩) hHeld ?_ ?_
    rotate_left
    ·rintro w' ⟨s0, s1, s2, s3⟩
     go_simp
     with_reducible rfl
    rotate_left
    ·simp only [Act.put, List.setIfInBounds_toArray, List.set_cons_zero, List.set_cons_succ, i64_w, i32_w]
     rfl
    refine one_ (i := 8) (N := some 25) bqFx14_9 rfl rfl (one_of HT_.out (by kernel_rfl)) (by decide) (fun K hK => ?_)
    refine goes_ Try.func15 (by kernel_rfl) rfl #[.agg #[.slice A141001_0 ((rd_T30 l0 x5_1).f0).length c141001_0, .slice A141001_1 ((rd_T30 l0 x5_1).f1).length c141001_1], .agg #[.slice A141002_0 ((rd_T30 l1 x5_1).f0).length c141002_0, .slice A141002_1 ((rd_T30 l1 x5_1).f1).length c141002_1]] (by rfl) rfl rfl (by (try simp only [List.map_toArray, List.map_cons, List.map_nil]); first | done | rfl | (simp only [List.length_drop, List.length_take]; rfl)) ?_
    with_reducible refine (laws_eqWeb.calls k1 _ _ ((rd_T30 l0 x5_1).f0) _ _ ((rd_T30 l0 x5_1).f1) _ _ ((rd_T30 l1 x5_1).f0) _ _ ((rd_T30 l1 x5_1).f1) false _ ?side1 ?side2 ?side3 ?side4 ?side5 ?side6 ?side7 ?side8 A7.out).mono ?_
    (case side1 => repeat (first | exact (Kd.C_below HR141001_0.out HB.out) | (with_reducible refine Kd.C_alloc ?_ _) | (with_reducible refine Kd.C_drewN ?_ _) | (with_reducible refine Kd.C_drew ?_)))
    (case side2 => exact HC141001_0.out)
    (case side3 => repeat (first | exact (Kd.C_below HR141001_1.out HB.out) | (with_reducible refine Kd.C_alloc ?_ _) | (with_reducible refine Kd.C_drewN ?_ _) | (with_reducible refine Kd.C_drew ?_)))
    (case side4 => exact HC141001_1.out)
    (case side5 => repeat (first | exact (Kd.C_below HR141002_0.out HB.out) | (with_reducible refine Kd.C_alloc ?_ _) | (with_reducible refine Kd.C_drewN ?_ _) | (with_reducible refine Kd.C_drew ?_)))
    (case side6 => exact HC141002_0.out)
    (case side7 => repeat (first | exact (Kd.C_below HR141002_1.out HB.out) | (with_reducible refine Kd.C_alloc ?_ _) | (with_reducible refine Kd.C_drewN ?_ _) | (with_reducible refine Kd.C_drew ?_)))
    (case side8 => exact HC141002_1.out)
    rintro e w12 ⟨rfl, hb⟩
    refine ⟨_, rfl, ?_⟩
    have n0_ := Aside0.mk (below_step (by repeat (first | (with_reducible first | exact HB.out | apply below_alloc | apply pw_below_drewN | apply below_drew1) | exact HB.out)) hb)
    clear HB
    have HB := n0_
    clear n0_
    (try clear hb)
    (try clear hb2)
    (try clear hk)
    (try clear hi)
    refine hK.out _ _ ⟨((HB.out.cell (World.block_lt_of_cell? w _ hw141001_0)).trans hw141001_0), ((HB.out.cell (World.block_lt_of_cell? w _ hw141001_1)).trans hw141001_1), ((HB.out.cell (World.block_lt_of_cell? w _ hw141002_0)).trans hw141002_0), ((HB.out.cell (World.block_lt_of_cell? w _ hw141002_1)).trans hw141002_1)⟩ (fun hHeld => ?_)
    clear hK K
    refine norm_ (a' := ?_) ?_ ?_
    rotate_left
    ·show Act.put _ (some 25) _ = _
     simp only [Act.put, List.setIfInBounds_toArray, List.set_cons_zero, List.set_cons_succ, i64_w, i32_w]
     rfl
    refine pure_ (i := 9) (N := some 26) (v := ?_) (a' := ?_) bqFx14_10 rfl rfl (any_of HT_.out (by kernel_rfl)) (fun _ _ _ h => h) (Or.inl ⟨by rfl, ?_⟩) ?_ ?_
    rotate_left
    ·intro w'
     go_simp
     with_reducible rfl
    rotate_left
    ·simp only [Act.put, List.setIfInBounds_toArray, List.set_cons_zero, List.set_cons_succ, i64_w, i32_w]
     rfl
    refine done_ (done_of HT_.out (by kernel_rfl)) ?_
    try go_wp2
    go_ret
    exact ⟨by first | rfl | (simp [errW_none, errW_some] <;> rfl) | (simp [*, errW_none, errW_some] <;> rfl), by repeat (first | (with_reducible first | exact HB.out | apply below_alloc | apply pw_below_drewN | apply below_drew1) | exact HB.out)⟩
   subst c8
   have H1 : (laws_eqWebS.l0 k1 l0 l1 (wrap64 (x5_1 + 1))) = some r := by rw [if_pos rfl] at H; exact H
   clear H
   have H := H1
   clear H1
   have H' := Aside0.mk H
   clear H
   try go_wp2
   have n0_ := Aside0.mk (below_drew1 HB.out)
   clear HB
   have HB := n0_
   clear n0_
   have p141001 : 0 ≤ (x5_1 : Int) := of_decide_eq_true (by first | (with_reducible assumption) | assumption)
   have q141001 : x5_1 < (l0.length : Int) := of_decide_eq_true (by first | (with_reducible assumption) | assumption)
   obtain ⟨ad141001, A141001_0, c141001_0, A141001_1, c141001_1, e141001, hx141001_0, hx141001_1, hl141001_0, hi141001_0, hl141001_1, hi141001_1⟩ := at_T30 HR0.out x5_1 p141001 q141001
   have hw141001_1 := hx141001_1
   have hw141001_0 := hx141001_0
   cases e141001
   replace hx141001_0 := (HB.out.cell (World.block_lt_of_cell? w _ hx141001_0)).trans hx141001_0
   replace hx141001_1 := (HB.out.cell (World.block_lt_of_cell? w _ hx141001_1)).trans hx141001_1
   have HR141001_0 := Aside0.mk hi141001_0
   have HC141001_0 := Aside0.mk hl141001_0
   clear hi141001_0 hl141001_0
   have HR141001_1 := Aside0.mk hi141001_1
   have HC141001_1 := Aside0.mk hl141001_1
   clear hi141001_1 hl141001_1
   replace p141001 := eq_true p141001
   replace q141001 := eq_true q141001
   have p141002 : 0 ≤ (x5_1 : Int) := of_decide_eq_true (by first | (with_reducible assumption) | assumption)
   have q141002 : x5_1 < (l1.length : Int) := of_decide_eq_true (by first | (with_reducible assumption) | assumption)
   obtain ⟨ad141002, A141002_0, c141002_0, A141002_1, c141002_1, e141002, hx141002_0, hx141002_1, hl141002_0, hi141002_0, hl141002_1, hi141002_1⟩ := at_T30 HR1.out x5_1 p141002 q141002
   have hw141002_1 := hx141002_1
   have hw141002_0 := hx141002_0
   cases e141002
   replace hx141002_0 := (HB.out.cell (World.block_lt_of_cell? w _ hx141002_0)).trans hx141002_0
   replace hx141002_1 := (HB.out.cell (World.block_lt_of_cell? w _ hx141002_1)).trans hx141002_1
   have HR141002_0 := Aside0.mk hi141002_0
   have HC141002_0 := Aside0.mk hl141002_0
   clear hi141002_0 hl141002_0
   have HR141002_1 := Aside0.mk hi141002_1
   have HC141002_1 := Aside0.mk hl141002_1
   clear hi141002_1 hl141002_1
   replace p141002 := eq_true p141002
   replace q141002 := eq_true q141002
   refine start_ (n := 10) (S := fun w' => w'.cell? (ad141001.add ((x5_1).toNat * 2)) = some (.slice A141001_0 ((rd_T30 l0 x5_1).f0).length c141001_0) ∧ w'.cell? ⟨(ad141001.add ((x5_1).toNat * 2)).block, (ad141001.add ((x5_1).toNat * 2)).off + 1, none⟩ = some (.slice A141001_1 ((rd_T30 l0 x5_1).f1).length c141001_1) ∧ w'.cell? (ad141002.add ((x5_1).toNat * 2)) = some (.slice A141002_0 ((rd_T30 l1 x5_1).f0).length c141002_0) ∧ w'.cell? ⟨(ad141002.add ((x5_1).toNat * 2)).block, (ad141002.add ((x5_1).toNat * 2)).off + 1, none⟩ = some (.slice A141002_1 ((rd_T30 l1 x5_1).f1).length c141002_1)) (ds := []) bqFx14_0 (by kernel_rfl) rfl rfl ⟨((HB.out.cell (World.block_lt_of_cell? w _ hw141001_0)).trans hw141001_0), ((HB.out.cell (World.block_lt_of_cell? w _ hw141001_1)).trans hw141001_1), ((HB.out.cell (World.block_lt_of_cell? w _ hw141002_0)).trans hw141002_0), ((HB.out.cell (World.block_lt_of_cell? w _ hw141002_1)).trans hw141002_1)⟩ (fun hHeld => ?_); refine with_tabW laws_eqWebS.tab6 laws_eqWebS.bits6 (fun HT_ HW_ => ?_)
   generalize wr.drew = w9 at HB HR141001_0 HR141001_1 HR141002_0 HR141002_1 hx141001_0 hx141001_1 hx141002_0 hx141002_1 hHeld ⊢
   refine pure_ (i := 0) (N := some 17) (v := ?_) (a' := ?_) bqFx14_1 rfl rfl (any_of HT_.out (by kernel_rfl)) (fun _ _ _ h => h) (Or.inl ⟨by rfl, ?_⟩) ?_ ?_
   rotate_left
   ·intro w'
    go_simp
    with_reducible rfl
   rotate_left
   ·simp only [Act.put, List.setIfInBounds_toArray, List.set_cons_zero, List.set_cons_succ, i64_w, i32_w]
    rfl
   refine pure_ (i := 1) (N := some 18) (v := ?_) (a' := ?_) bqFx14_2 rfl rfl (any_of HT_.out (by kernel_rfl)) (fun _ _ _ h => h) (Or.inl ⟨by rfl, ?_⟩) ?_ ?_
   rotate_left
   ·intro w'
    go_simp
    with_reducible rfl
   rotate_left
   ·simp only [Act.put, List.setIfInBounds_toArray, List.set_cons_zero, List.set_cons_succ, i64_w, i32_w]
    rfl
   refine pure_ (i := 2) (N := some 19) (v := ?_) (a' := ?_) bqFx14_3 rfl rfl (any_of HT_.out (by kernel_rfl)) (fun _ _ _ h => h) (Or.inl ⟨by rfl, ?_⟩) ?_ ?_
   rotate_left
   ·intro w'
    go_simp
    with_reducible rfl
   rotate_left
   ·simp only [Act.put, List.setIfInBounds_toArray, List.set_cons_zero, List.set_cons_succ, i64_w, i32_w]
    rfl
   refine pure_ (i := 4) (N := some 21) (v := ?_) (a' := ?_) bqFx14_4 rfl rfl (any_of HT_.out (by kernel_rfl)) (fun _ _ _ h => h) (Or.inl ⟨by rfl, ?_⟩) ?_ ?_
   rotate_left
   ·intro w'
    go_simp
    with_reducible rfl
   rotate_left
   ·simp only [Act.put, List.setIfInBounds_toArray, List.set_cons_zero, List.set_cons_succ, i64_w, i32_w]
    rfl
   refine pure_ (i := 5) (N := some 22) (v := ?_) (a' := ?_) bqFx14_5 rfl rfl (any_of HT_.out (by kernel_rfl)) (fun _ _ _ h => h) (Or.inl ⟨by rfl, ?_⟩) ?_ ?_
   rotate_left
   ·intro w'
    go_simp
    with_reducible rfl
   rotate_left
   ·simp only [Act.put, List.setIfInBounds_toArray, List.set_cons_zero, List.set_cons_succ, i64_w, i32_w]
    rfl
   refine pure_ (i := 6) (N := some 23) (v := ?_) (a' := ?_) bqFx14_6 rfl rfl (any_of HT_.out (by kernel_rfl)) (fun _ _ _ h => h) (Or.inl ⟨by rfl, ?_⟩) ?_ ?_
   rotate_left
   ·intro w'
    go_simp
    with_reducible rfl
   rotate_left
   ·simp only [Act.put, List.setIfInBounds_toArray, List.set_cons_zero, List.set_cons_succ, i64_w, i32_w]
    rfl
   refine take_ (i := 3) (N := some 20) (v := ?_) (a' := ?_) bqFx14_7 rfl rfl (take_ofW HT_.out HW_.out (by kernel_rfl)) (fun _ _ _ h => h) (Or.inl ⟨by rfl, ?_⟩) hHeld ?_ ?_
   rotate_left
   ·rintro w' ⟨s0, s1, s2, s3⟩
    go_simp
    with_reducible rfl
   rotate_left
   ·simp only [Act.put, List.setIfInBounds_toArray, List.set_cons_zero, List.set_cons_succ, i64_w, i32_w]
    rfl
   refine take_ (i := 7) (N := some 24) (v := ?_) (a' := ?_) bqFx14_8 rfl rfl (take_ofW HT_.out HW_.out (by kernel_rfl)) (fun _ _ _ h => h) (Or.inl ⟨by rfl, ?_⟩) hHeld ?_ ?_
   rotate_left
   ·rintro w' ⟨s0, s1, s2, s3⟩
    go_simp
    with_reducible rfl
   rotate_left
   ·simp only [Act.put, List.setIfInBounds_toArray, List.set_cons_zero, List.set_cons_succ, i64_w, i32_w]
    rfl
   refine one_ (i := 8) (N := some 25) bqFx14_9 rfl rfl (one_of HT_.out (by kernel_rfl)) (by decide) (fun K hK => ?_)
   refine goes_ Try.func15 (by kernel_rfl) rfl #[.agg #[.slice A141001_0 ((rd_T30 l0 x5_1).f0).length c141001_0, .slice A141001_1 ((rd_T30 l0 x5_1).f1).length c141001_1], .agg #[.slice A141002_0 ((rd_T30 l1 x5_1).f0).length c141002_0, .slice A141002_1 ((rd_T30 l1 x5_1).f1).length c141002_1]] (by rfl) rfl rfl (by (try simp only [List.map_toArray, List.map_cons, List.map_nil]); first | done | rfl | (simp only [List.length_drop, List.length_take]; rfl)) ?_
   with_reducible refine (laws_eqWeb.calls k1 _ _ ((rd_T30 l0 x5_1).f0) _ _ ((rd_T30 l0 x5_1).f1) _ _ ((rd_T30 l1 x5_1).f0) _ _ ((rd_T30 l1 x5_1).f1) true _ ?side1 ?side2 ?side3 ?side4 ?side5 ?side6 ?side7 ?side8 A7.out).mono ?_
   (case side1 => repeat (first | exact (Kd.C_below HR141001_0.out HB.out) | (with_reducible refine Kd.C_alloc ?_ _) | (with_reducible refine Kd.C_drewN ?_ _) | (with_reducible refine Kd.C_drew ?_)))
   (case side2 => exact HC141001_0.out)
   (case side3 => repeat (first | exact (Kd.C_below HR141001_1.out HB.out) | (with_reducible refine Kd.C_alloc ?_ _) | (with_reducible refine Kd.C_drewN ?_ _) | (with_reducible refine Kd.C_drew ?_)))
   (case side4 => exact HC141001_1.out)
   (case side5 => repeat (first | exact (Kd.C_below HR141002_0.out HB.out) | (with_reducible refine Kd.C_alloc ?_ _) | (with_reducible refine Kd.C_drewN ?_ _) | (with_reducible refine Kd.C_drew ?_)))
   (case side6 => exact HC141002_0.out)
   (case side7 => repeat (first | exact (Kd.C_below HR141002_1.out HB.out) | (with_reducible refine Kd.C_alloc ?_ _) | (with_reducible refine Kd.C_drewN ?_ _) | (with_reducible refine Kd.C_drew ?_)))
   (case side8 => exact HC141002_1.out)
   rintro e w10 ⟨rfl, hb⟩
   refine ⟨_, rfl, ?_⟩
   have n0_ := Aside0.mk (below_step (by repeat (first | (with_reducible first | exact HB.out | apply below_alloc | apply pw_below_drewN | apply below_drew1) | exact HB.out)) hb)
   clear HB
   have HB := n0_
   clear n0_
   (try clear hb)
   (try clear hb2)
   (try clear hk)
   (try clear hi)
   refine hK.out _ _ ⟨((HB.out.cell (World.block_lt_of_cell? w _ hw141001_0)).trans hw141001_0), ((HB.out.cell (World.block_lt_of_cell? w _ hw141001_1)).trans hw141001_1), ((HB.out.cell (World.block_lt_of_cell? w _ hw141002_0)).trans hw141002_0), ((HB.out.cell (World.block_lt_of_cell? w _ hw141002_1)).trans hw141002_1)⟩ (fun hHeld => ?_)
   clear hK K
   refine norm_ (a' := ?_) ?_ ?_
   rotate_left
   ·show Act.put _ (some 25) _ = _
    simp only [Act.put, List.setIfInBounds_toArray, List.set_cons_zero, List.set_cons_succ, i64_w, i32_w]
    rfl
   refine pure_ (i := 9) (N := some 26) (v := ?_) (a' := ?_) bqFx14_10 rfl rfl (any_of HT_.out (by kernel_rfl)) (fun _ _ _ h => h) (Or.inl ⟨by rfl, ?_⟩) ?_ ?_
   rotate_left
   ·intro w'
    go_simp
    with_reducible rfl
   rotate_left
   ·simp only [Act.put, List.setIfInBounds_toArray, List.set_cons_zero, List.set_cons_succ, i64_w, i32_w]
    rfl
   refine done_ (done_of HT_.out (by kernel_rfl)) ?_
   try go_wp2
   go_roundg k1
   case measure => have := HK1.out; omega
   case rel => exact ⟨(wrap64 (x5_1 + 1)), (by first | rfl | (simp; done) | (simp [*]; done)), H', ⟨by have := HK1.out; omega⟩, ⟨by repeat (first | (with_reducible first | exact HB.out | apply below_alloc | apply pw_below_drewN | apply below_drew1) | exact HB.out)⟩⟩
end Go.Proofs.Ytmeggliapebkgaa.F
end
section
namespace Go.Proofs.Ytmeggliapebkgaa.F
open Go.RowKit Go.Proofs.YtmeggliapebkgaaW.PrintWords Go.Proofs.YtmeggliapebkgaaW.PrintLast Go.Proofs.YtmeggliapebkgaaW.PrintMore
attribute [local go_sem] max2_int min2_int max_two min_two max_three min_three max_four min_four   
set_option linter.unusedVariables false
set_option linter.unusedSimpArgs false
open Go.Proofs.Ytmeggliapebkgaa.Mem Go.Proofs.Ytmeggliapebkgaa.Pure
def laws_markInt64SS.l0 : Nat → List (List Int) → Int → Int → Option (Int × List (List Int))
  | 0, _, _, _ => none
  | k + 1, x0, x1, x5 => if x5 < (x0.length : Int) then ((laws_markInt64S.f k (x0.getD x5.toNat []) x1).bind fun b => laws_markInt64SS.l0 k (x0.set x5.toNat b.2) b.1 (wrap64 (x5 + 1))) else some (x1, x0)
def laws_markInt64SS.f (k : Nat) (l0 : List (List Int)) (a1 : Int) : Option (Int × List (List Int)) := laws_markInt64SS.l0 k l0 a1 0
theorem laws_markInt64SS.mono_l : ∀ k, ∀ y0 y1 y2, LeO (laws_markInt64SS.l0 k y0 y1 y2) (laws_markInt64SS.l0 (k + 1) y0 y1 y2)
  | 0 => fun _ _ _ r h => by simp [laws_markInt64SS.l0] at h
  | k + 1 => fun y0 y1 y2 => by
    have ih := laws_markInt64SS.mono_l k
    unfold laws_markInt64SS.l0
    exact LeO.ite (LeO.bind (laws_markInt64S.mono _ _ _) (fun _ => ih _ _ _)) (LeO.refl _)
theorem laws_markInt64SS.mono : ∀ a0 a1 k, LeO (laws_markInt64SS.f k a0 a1) (laws_markInt64SS.f (k + 1) a0 a1) := fun a0 a1 k => laws_markInt64SS.mono_l k _ _ _
set_option maxHeartbeats 4000000 in
set_option maxRecDepth 100000 in
theorem laws_markInt64SS.calls (k : Nat) (P0 : Nat → Prop) (u : Value) (l0 : List (List Int)) (a1 : Int) (r1 : Int) (r2 : List (List Int)) (w0 w : World) (hB : Below w0.heap.size w0 w) (hlen : l0.length ≤ 1000000000) (ho0 : Kd.S (Kd.slice 2 (Kd.int .i64)) 22 w w0.heap.size P0 u l0) (h : laws_markInt64SS.f k l0 a1 = some (r1, r2)) :
    Calls Try.prog 54 #[u, .int .i64 a1] w fun e w' => e = .returned (.int .i64 r1) ∧ Kd.S (Kd.slice 2 (Kd.int .i64)) 22 w' w0.heap.size P0 u r2 ∧ Below w0.heap.size w0 w' ∧ Kept w w' P0 := by
  obtain ⟨A, c, rfl⟩ := Kd.S_slice ho0
  obtain ⟨n, hn⟩ : ∃ n, n = l0.length := ⟨_, rfl⟩
  rw [← hn] at ho0 ⊢
  have HN := Aside0.mk hn
  have HB := Aside0.mk hB
  have HO := Aside0.mk ho0
  have HF := Aside0.mk h
  have hn9 : n ≤ 1000000000 := by omega
  clear hn hB ho0 h hlen
  go_enter Try.func54, Try.ntmps54
  go_wp2
  go_loopw [1, 5] (fun s1 s5 wr => ∃ (x kq : Nat) (m : Int) (xs : List (List Int)), s1 = .int .i64 m ∧ s5 = .int .i64 (x : Int) ∧ Aside0 (x ≤ n) ∧ Aside0 (laws_markInt64SS.l0 kq xs m (x : Int) = some (r1, r2)) ∧ Aside0 (xs.length = n) ∧ Aside0 (Kd.S (Kd.slice 2 (Kd.int .i64)) 22 wr w0.heap.size P0 (.slice A n c) xs) ∧ Aside0 (Below w0.heap.size w0 wr) ∧ Aside0 (Kept w wr P0))
    (fun _ s5 _ => n - (intOf s5).toNat)
  case atStart => exact ⟨0, k, a1, l0, rfl, rfl, ⟨Nat.zero_le _⟩, ⟨HF.out⟩, ⟨HN.out.symm⟩, HO, HB, ⟨Kept.refl _ _⟩⟩
  case round =>
    obtain ⟨x, kq, m, xs, rfl, rfl, HX, HL, HXL, HS, HBR, HK⟩ := hrel
    by_cases hlt : x < n
    rotate_left
    · have t1 : decide ((x : Int) < (n : Int)) = false := decide_eq_false (by omega)
      have t2 : decide (x < n) = false := decide_eq_false hlt
      have hrr : m = r1 ∧ xs = r2 := by
        have h := HL.out
        cases kq with
        | zero => exact absurd h (by simp [laws_markInt64SS.l0])
        | succ k' =>
          rw [laws_markInt64SS.l0, if_neg (by rw [HXL.out]; omega)] at h
          simpa using h
      obtain ⟨rfl, rfl⟩ := hrr
      clear hlt
      go_wp2
      go_ret
      exact ⟨rfl, HS.out, HBR.out, HK.out⟩
    have t1 : decide ((x : Int) < (n : Int)) = true := decide_eq_true (by omega)
    have t2 : decide (x < n) = true := decide_eq_true hlt
    have HLT := Aside0.mk hlt
    obtain ⟨k', b, hk, hb, hl⟩ : ∃ k' b, kq = k' + 1 ∧ laws_markInt64S.f k' (xs.getD x []) m = some b ∧ laws_markInt64SS.l0 k' (xs.set x b.2) b.1 (wrap64 ((x : Int) + 1)) = some (r1, r2) := by
      have h := HL.out
      cases kq with
      | zero => exact absurd h (by simp [laws_markInt64SS.l0])
      | succ k' =>
        rw [laws_markInt64SS.l0, if_pos (by rw [HXL.out]; omega)] at h
        obtain ⟨b, hb, hl⟩ := Option.bind_eq_some_iff.1 h
        rw [Int.toNat_natCast] at hb hl
        exact ⟨k', b, rfl, hb, hl⟩
    obtain ⟨m', row'⟩ := b
    have hne := (Kd.S_reads' HS.out).2.2.2.2 (by rw [HXL.out]; omega)
    obtain ⟨ad, rfl, _⟩ := hne
    obtain ⟨oki, cs, hcl, hM, hcc, hoki, hback⟩ := Kd.S_borrow HS.out [] (x : Int) (by omega) (by omega)
    obtain ⟨v, rfl, hR⟩ := hM
    have hrow := hcc 0 v rfl
    rw [show (Kd.slice 2 (Kd.int .i64)).sz = 1 from rfl, Nat.mul_one, Nat.add_zero, Int.toNat_natCast] at hrow
    obtain ⟨Av, cv, rfl⟩ := Kd.R_slice hR
    rw [Int.toNat_natCast] at hR hback hrow
    have HRV := Aside0.mk hR
    have HBK := Aside0.mk (fun (w1 : World) (hg : wr.grownBy w1 (Value.slice Av (xs.getD x []).length cv).ownBlock) (hm : Kd.R (Kd.int .i64) 2 w1 w0.heap.size oki (.slice Av (xs.getD x []).length cv) row') => hback (x' := row') hg (fun k hk => hR.1 k hk) ⟨_, rfl, hm⟩)
    have HOK := Aside0.mk hoki
    have HMK := Aside0.mk hb
    have HLK := Aside0.mk hl
    clear hR hback hb hl hcc hoki hcl hk
    go_wp2_with (first | (go_at_call 28; refine (laws_markInt64S.calls k' (fun k_ => some k_ = (Value.slice Av (xs.getD x []).length cv).ownBlock) _ (xs.getD x []) m m' row' w0 wr HBR.out (Kd.R_tight rfl HRV.out) HMK.out).mono ?_; rintro e w2 ⟨rfl, hy2, hb2, hk2⟩; have HY2 := Aside0.mk hy2; have HB2 := Aside0.mk hb2; have HK2 := Aside0.mk hk2; clear hy2 hb2 hk2))
    have HS2 := Aside0.mk (HBK.out w2 ⟨HB2.out.os.trans HBR.out.os.symm, HB2.out.tape.trans HBR.out.tape.symm, HB2.out.output.trans HBR.out.output.symm, HK2.out.1, fun k hk hr => HK2.out.2 k hk (fun e => hr e)⟩ (Kd.R_mono (Kd.R_tight rfl HY2.out) (fun k hk => HRV.out.1 k hk.symm)))
    go_roundw
    case rel => exact ⟨x + 1, k', m', xs.set x row', rfl, rfl, ⟨HLT.out⟩, ⟨by rw [← wS (by have := HLT.out; omega)]; exact HLK.out⟩, ⟨by rw [List.length_set]; exact HXL.out⟩, HS2, HB2, ⟨⟨Nat.le_trans HK.out.1 HK2.out.1, fun k hk hp => (HK2.out.2 k (Nat.lt_of_lt_of_le hk HK.out.1) (fun e => hp ((HOK.out k (HRV.out.1 k e.symm)).1))).trans (HK.out.2 k hk hp)⟩⟩⟩
    case measure => have := HLT.out; simp [intOf]; omega
end Go.Proofs.Ytmeggliapebkgaa.F
end
section
namespace Go.Proofs.Ytmeggliapebkgaa.F
open Go.RowKit Go.Proofs.YtmeggliapebkgaaW.PrintWords Go.Proofs.YtmeggliapebkgaaW.PrintLast Go.Proofs.YtmeggliapebkgaaW.PrintMore
attribute [local go_sem] max2_int min2_int max_two min_two max_three min_three max_four min_four   
set_option linter.unusedVariables false
set_option linter.unusedSimpArgs false
open Go.Proofs.Ytmeggliapebkgaa.Mem
set_option maxHeartbeats 4000000 in
set_option maxRecDepth 100000 in
theorem markWeb_walk (k1 k2 : Nat) (P0 P1 : Nat → Prop) (A0 : Option Addr) (c0 : Nat) (l0 : List Int) (A1 : Option Addr) (c1 : Nat) (v : List (List Int)) (a T0 T : Int) (m0 : List Int) (M : List (List Int)) (w0 w : World) (hB : Below w0.heap.size w0 w) (hlen : v.length ≤ 1000000000) (hR : Kd.R (Kd.int .i64) 2 w w0.heap.size P0 (.slice A0 l0.length c0) l0) (hS : Kd.S (Kd.slice 2 (Kd.int .i64)) 22 w w0.heap.size P1 (.slice A1 v.length c1) v) (hd : ∀ k, P1 k → ¬ P0 k) (h1 : laws_markInt64S.f k1 l0 a = some (T0, m0)) (h2 : laws_markInt64SS.f k2 v T0 = some (T, M)) :
    Calls Try.prog 16 #[.agg #[.slice A0 l0.length c0, .slice A1 v.length c1], .int .i64 a] w fun e w' => e = .returned (.int .i64 T) ∧ Kd.R (Kd.int .i64) 2 w' w0.heap.size (fun k => P0 k ∨ w.heap.size ≤ k) (.slice A0 l0.length c0) m0 ∧ Kd.S (Kd.slice 2 (Kd.int .i64)) 22 w' w0.heap.size P1 (.slice A1 v.length c1) M ∧ Below w0.heap.size w0 w' ∧ Kept w w' (fun k => P0 k ∨ P1 k) := by
  have hu := Try.underlying30
  have HB := Aside0.mk (below_alloc hB (.cells #[.slice A0 l0.length c0, .slice A1 v.length c1] 30))
  have HR := Aside0.mk (Kd.R_alloc (Kd.R_mono (ok' := fun k => P0 k ∧ k < w.heap.size) (Kd.R_bound hR) (fun k hk => ⟨hk.1, hk.2.2.1⟩)) (.cells #[.slice A0 l0.length c0, .slice A1 v.length c1] 30))
  have HS := Aside0.mk (Kd.S_alloc (Kd.S_mono (ok' := fun k => P1 k ∧ k < w.heap.size) (Kd.S_bound hS) (fun k hk => ⟨hk.1, hk.2.2.1⟩)) (.cells #[.slice A0 l0.length c0, .slice A1 v.length c1] 30))
  have hb := @new_at w (.cells #[.slice A0 l0.length c0, .slice A1 v.length c1] 30) _ rfl
  have HBK := Aside0.mk hb
  have HKA := Aside0.mk ((Kept.refl w (fun k => P0 k ∨ P1 k)).alloc (.cells #[.slice A0 l0.length c0, .slice A1 v.length c1] 30))
  have HSZ := Aside0.mk (show (w.alloc (.cells #[.slice A0 l0.length c0, .slice A1 v.length c1] 30)).heap.size = w.heap.size + 1 by simp)
  have q0 := (blk_cell hb 0).trans rfl
  have H1 := Aside0.mk h1
  have H2 := Aside0.mk h2
  have HD := Aside0.mk hd
  clear hB hR hS hb h1 h2 hd
  go_enter Try.func16, Try.ntmps16
  go_wp2_with fail
  generalize (w.alloc (.cells #[.slice A0 l0.length c0, .slice A1 v.length c1] 30)) = W1 at HB HR HS HBK HKA HSZ q0 ⊢
  refine (laws_markInt64S.calls k1 (fun k => P0 k ∧ k < w.heap.size) _ l0 a T0 m0 w0 W1 HB.out HR.out H1.out).mono ?_
  rintro e w2 ⟨rfl, hr2, hb2, hk2⟩
  have hbk2 := blk_kept HBK.out hk2 (fun h => Nat.lt_irrefl _ h.2)
  have q1 := (blk_cell hbk2 1).trans rfl
  have HR2 := Aside0.mk hr2
  have HB2 := Aside0.mk hb2
  have HK2 := Aside0.mk hk2
  have HS2 := Aside0.mk (Kd.S_kept HS.out hk2 (fun k hk h => HD.out k hk.1 h.1))
  clear hr2 hb2 hk2 hbk2 q0
  go_wp2_with fail
  refine (laws_markInt64SS.calls k2 (fun k => P1 k ∧ k < w.heap.size) _ v T0 T M w0 w2 HB2.out hlen HS2.out H2.out).mono ?_
  rintro e w3 ⟨rfl, hs3, hb3, hk3⟩
  have HR3 := Aside0.mk (Kd.R_kept HR2.out hk3 (fun k hk h => hk.elim (fun g => HD.out k h.1 g.1) (fun g => by have := HSZ.out; have := h.2; omega)))
  have HS3 := Aside0.mk hs3
  have HB3 := Aside0.mk hb3
  have HK3 := Aside0.mk hk3
  clear hs3 hb3 hk3 q1
  go_wp2_with fail
  go_ret
  refine ⟨rfl, Kd.R_mono HR3.out (fun k hk => hk.elim (fun g => .inl g.1) (fun g => .inr (by have := HSZ.out; omega))), Kd.S_mono HS3.out (fun k hk => hk.1), HB3.out, ?_⟩
  exact (HKA.out.then_ HK2.out (fun k hk => .inl (.inl hk.1))).then_ HK3.out (fun k hk => .inl (.inr hk.1))
end Go.Proofs.Ytmeggliapebkgaa.F
end
section
namespace Go.Proofs.Ytmeggliapebkgaa.F
open Go.RowKit Go.Proofs.YtmeggliapebkgaaW.PrintWords Go.Proofs.YtmeggliapebkgaaW.PrintLast Go.Proofs.YtmeggliapebkgaaW.PrintMore
attribute [local go_sem] max2_int min2_int max_two min_two max_three min_three max_four min_four   
set_option linter.unusedVariables false
set_option linter.unusedSimpArgs false
open Go.Proofs.Ytmeggliapebkgaa.Mem
structure TwoX (B : Nat) (okR okP okT okQ : Nat → Prop) (z : Nat) (G0 : Option Addr) (g0 : Nat) (G1 : Option Addr) (g1 : Nat) (G2 : Option Addr) (g2 : Nat) (G3 : Option Addr) (g3 : Nat) (m1 n1 m2 n2 : Nat) (l1 l2 : List Int) (L1 L2 : List (List Int)) (w : World) : Prop where
  r : Kd.R (Kd.int .i64) 2 w B okR (.slice G0 m1 g0) l1
  s : Kd.S (Kd.slice 2 (Kd.int .i64)) 22 w B okP (.slice G1 n1 g1) L1
  t : Kd.R (Kd.int .i64) 2 w B okT (.slice G2 m2 g2) l2
  u : Kd.S (Kd.slice 2 (Kd.int .i64)) 22 w B okQ (.slice G3 n2 g3) L2
  bz : w.heap[z]? = some (.cells #[.slice G0 m1 g0, .slice G1 n1 g1, .slice G2 m2 g2, .slice G3 n2 g3] 30 (0, 0))
structure Parted (okR okP okT okQ : Nat → Prop) (z : Nat) : Prop where
  pr : ∀ k, okP k → ¬ okR k
  tr : ∀ k, okT k → ¬ okR k
  tp : ∀ k, okT k → ¬ okP k
  qr : ∀ k, okQ k → ¬ okR k
  qp : ∀ k, okQ k → ¬ okP k
  qt : ∀ k, okQ k → ¬ okT k
  zr : ¬ okR z
  zp : ¬ okP z
  zt : ¬ okT z
  zq : ¬ okQ z
section
variable {B : Nat} {okR okP okT okQ : Nat → Prop} {z : Nat} {G0 : Option Addr} {g0 : Nat} {G1 : Option Addr} {g1 : Nat} {G2 : Option Addr} {g2 : Nat} {G3 : Option Addr} {g3 : Nat} {m1 n1 m2 n2 : Nat} {l1 l2 l' : List Int} {L1 L2 L' : List (List Int)} {w w' : World} {S : Nat → Prop}
theorem TwoX.kept (h : TwoX B okR okP okT okQ z G0 g0 G1 g1 G2 g2 G3 g3 m1 n1 m2 n2 l1 l2 L1 L2 w) (hk : Kept w w' S) (h1 : ∀ k, okR k → ¬ S k) (h2 : ∀ k, okP k → ¬ S k) (h3 : ∀ k, okT k → ¬ S k) (h4 : ∀ k, okQ k → ¬ S k) (h5 : ¬ S z) : TwoX B okR okP okT okQ z G0 g0 G1 g1 G2 g2 G3 g3 m1 n1 m2 n2 l1 l2 L1 L2 w' :=
  ⟨Kd.R_kept h.r hk h1, Kd.S_kept h.s hk h2, Kd.R_kept h.t hk h3, Kd.S_kept h.u hk h4, blk_kept h.bz hk h5⟩
theorem TwoX.below (h : TwoX B okR okP okT okQ z G0 g0 G1 g1 G2 g2 G3 g3 m1 n1 m2 n2 l1 l2 L1 L2 w) (hb : Below w.heap.size w w') : TwoX B okR okP okT okQ z G0 g0 G1 g1 G2 g2 G3 g3 m1 n1 m2 n2 l1 l2 L1 L2 w' :=
  ⟨Kd.R_below h.r hb, Kd.S_below h.s hb, Kd.R_below h.t hb, Kd.S_below h.u hb, blk_below h.bz hb⟩
theorem tight_row {v : Value} {P Q : Nat → Prop} {xs : List Int} (h : Kd.R (Kd.int .i64) 2 w' B P v xs) (h0 : Kd.R (Kd.int .i64) 2 w B Q v l1) : Kd.R (Kd.int .i64) 2 w' B Q v xs :=
  Kd.R_mono (Kd.R_tight rfl h) (fun k hk => h0.1 k hk.symm)
theorem TwoX.markR (D : Parted okR okP okT okQ z) (h : TwoX B okR okP okT okQ z G0 g0 G1 g1 G2 g2 G3 g3 m1 n1 m2 n2 l1 l2 L1 L2 w) {P : Nat → Prop} (hr : Kd.R (Kd.int .i64) 2 w' B P (.slice G0 m1 g0) l') (hk : Kept w w' okR) : TwoX B okR okP okT okQ z G0 g0 G1 g1 G2 g2 G3 g3 m1 n1 m2 n2 l' l2 L1 L2 w' :=
  ⟨tight_row hr h.r, Kd.S_kept h.s hk D.pr, Kd.R_kept h.t hk D.tr, Kd.S_kept h.u hk D.qr, blk_kept h.bz hk D.zr⟩
theorem TwoX.markP (D : Parted okR okP okT okQ z) (h : TwoX B okR okP okT okQ z G0 g0 G1 g1 G2 g2 G3 g3 m1 n1 m2 n2 l1 l2 L1 L2 w) (hs : Kd.S (Kd.slice 2 (Kd.int .i64)) 22 w' B okP (.slice G1 n1 g1) L') (hk : Kept w w' okP) : TwoX B okR okP okT okQ z G0 g0 G1 g1 G2 g2 G3 g3 m1 n1 m2 n2 l1 l2 L' L2 w' :=
  ⟨Kd.R_kept h.r hk (fun k a b => D.pr k b a), hs, Kd.R_kept h.t hk D.tp, Kd.S_kept h.u hk D.qp, blk_kept h.bz hk D.zp⟩
theorem TwoX.markT (D : Parted okR okP okT okQ z) (h : TwoX B okR okP okT okQ z G0 g0 G1 g1 G2 g2 G3 g3 m1 n1 m2 n2 l1 l2 L1 L2 w) {P : Nat → Prop} (hr : Kd.R (Kd.int .i64) 2 w' B P (.slice G2 m2 g2) l') (hk : Kept w w' okT) : TwoX B okR okP okT okQ z G0 g0 G1 g1 G2 g2 G3 g3 m1 n1 m2 n2 l1 l' L1 L2 w' :=
  ⟨Kd.R_kept h.r hk (fun k a b => D.tr k b a), Kd.S_kept h.s hk (fun k a b => D.tp k b a), tight_row hr h.t, Kd.S_kept h.u hk D.qt, blk_kept h.bz hk D.zt⟩
theorem TwoX.markQ (D : Parted okR okP okT okQ z) (h : TwoX B okR okP okT okQ z G0 g0 G1 g1 G2 g2 G3 g3 m1 n1 m2 n2 l1 l2 L1 L2 w) (hs : Kd.S (Kd.slice 2 (Kd.int .i64)) 22 w' B okQ (.slice G3 n2 g3) L') (hk : Kept w w' okQ) : TwoX B okR okP okT okQ z G0 g0 G1 g1 G2 g2 G3 g3 m1 n1 m2 n2 l1 l2 L1 L' w' :=
  ⟨Kd.R_kept h.r hk (fun k a b => D.qr k b a), Kd.S_kept h.s hk (fun k a b => D.qp k b a), Kd.R_kept h.t hk (fun k a b => D.qt k b a), hs, blk_kept h.bz hk D.zq⟩
end
set_option maxHeartbeats 8000000 in
set_option maxRecDepth 100000 in
theorem markTwo_walk (k1 k2 k3 k4 : Nat) (okR okP okT okQ : Nat → Prop) (z : Nat) (G0 : Option Addr) (g0 : Nat) (G1 : Option Addr) (g1 : Nat) (G2 : Option Addr) (g2 : Nat) (G3 : Option Addr) (g3 : Nat) (m1 n1 m2 n2 : Nat) (l1 l2 : List Int) (L1 L2 : List (List Int)) (a U1 U2 U3 U4 : Int) (r1 r2 : List Int) (M1 M2 : List (List Int)) (w0 w : World) (hB : Below w0.heap.size w0 w) (D : Parted okR okP okT okQ z)
    (hX : TwoX w0.heap.size okR okP okT okQ z G0 g0 G1 g1 G2 g2 G3 g3 m1 n1 m2 n2 l1 l2 L1 L2 w) (hl1 : L1.length ≤ 1000000000) (hl2 : L2.length ≤ 1000000000) (h1 : laws_markInt64S.f k1 l1 a = some (U1, r1)) (h2 : laws_markInt64SS.f k2 L1 U1 = some (U2, M1)) (h3 : laws_markInt64S.f k3 l2 U2 = some (U3, r2)) (h4 : laws_markInt64SS.f k4 L2 U3 = some (U4, M2)) :
    Calls Try.prog 17 #[.slice (some ⟨z, 0, none⟩) 2 2, .int .i64 a] w fun e w' => e = .returned (.int .i64 U4) ∧ TwoX w0.heap.size okR okP okT okQ z G0 g0 G1 g1 G2 g2 G3 g3 m1 n1 m2 n2 r1 r2 M1 M2 w' ∧ Below w0.heap.size w0 w' ∧ Kept w w' (fun k => (okR k ∨ okP k) ∨ (okT k ∨ okQ k)) := by
  have HB := Aside0.mk hB
  have DD := Aside0.mk D
  have HX := Aside0.mk hX
  have H1 := Aside0.mk h1
  have H2 := Aside0.mk h2
  have H3 := Aside0.mk h3
  have H4 := Aside0.mk h4
  have HL1 := Aside0.mk hl1
  have HL2 := Aside0.mk hl2
  clear hB D hX h1 h2 h3 h4 hl1 hl2
  have hu := Try.underlying30
  go_enter Try.func17, Try.ntmps17
  go_wp2_with fail
  go_loopw [1, 5] (fun s1 s5 wr => Aside0 (Below w0.heap.size w0 wr) ∧ Aside0 (Kept w wr (fun k => (okR k ∨ okP k) ∨ (okT k ∨ okQ k))) ∧ ((s1 = .int .i64 a ∧ s5 = .int .i64 0 ∧ Aside0 (TwoX w0.heap.size okR okP okT okQ z G0 g0 G1 g1 G2 g2 G3 g3 m1 n1 m2 n2 l1 l2 L1 L2 wr)) ∨ (s1 = .int .i64 U2 ∧ s5 = .int .i64 1 ∧ Aside0 (TwoX w0.heap.size okR okP okT okQ z G0 g0 G1 g1 G2 g2 G3 g3 m1 n1 m2 n2 r1 l2 M1 L2 wr)) ∨ (s1 = .int .i64 U4 ∧ s5 = .int .i64 2 ∧ Aside0 (TwoX w0.heap.size okR okP okT okQ z G0 g0 G1 g1 G2 g2 G3 g3 m1 n1 m2 n2 r1 r2 M1 M2 wr))))
    (fun _ s5 _ => 2 - (intOf s5).toNat)
  case atStart => exact ⟨HB, ⟨Kept.refl _ _⟩, .inl ⟨rfl, rfl, HX⟩⟩
  case round =>
    obtain ⟨HBR, HKR, hrel⟩ := hrel
    rcases hrel with ⟨rfl, rfl, HXR⟩ | ⟨rfl, rfl, HXR⟩ | ⟨rfl, rfl, HXR⟩
    · have bz := HXR.out.bz
      have q0 := (blk_cell bz 0).trans rfl
      clear bz
      go_wp2_with fail
      refine (laws_markInt64S.calls k1 okR _ l1 a U1 r1 w0 wr HBR.out HXR.out.r H1.out).mono ?_
      rintro e w2 ⟨rfl, hr2, hb2, hk2⟩
      have HX2 := Aside0.mk (HXR.out.markR DD.out hr2 hk2)
      have HB2 := Aside0.mk hb2
      have HK2 := Aside0.mk (HKR.out.then_ hk2 (fun k hk => .inl (.inl (.inl hk))))
      clear hr2 hb2 hk2 q0
      have bz := HX2.out.bz
      have q1 := (blk_cell bz 1).trans rfl
      clear bz
      go_wp2_with fail
      refine (laws_markInt64SS.calls k2 okP _ L1 U1 U2 M1 w0 w2 HB2.out HL1.out HX2.out.s H2.out).mono ?_
      rintro e w3 ⟨rfl, hs3, hb3, hk3⟩
      have HX3 := Aside0.mk (HX2.out.markP DD.out hs3 hk3)
      have HB3 := Aside0.mk hb3
      have HK3 := Aside0.mk (HK2.out.then_ hk3 (fun k hk => .inl (.inl (.inr hk))))
      clear hs3 hb3 hk3 q1
      go_wp2_with fail
      go_roundw
      case rel => exact ⟨HB3, HK3, .inr (.inl ⟨rfl, rfl, HX3⟩)⟩
      case measure => decide
    · have bz := HXR.out.bz
      have q0 := (blk_cell bz 2).trans rfl
      clear bz
      go_wp2_with fail
      refine (laws_markInt64S.calls k3 okT _ l2 U2 U3 r2 w0 wr HBR.out HXR.out.t H3.out).mono ?_
      rintro e w2 ⟨rfl, hr2, hb2, hk2⟩
      have HX2 := Aside0.mk (HXR.out.markT DD.out hr2 hk2)
      have HB2 := Aside0.mk hb2
      have HK2 := Aside0.mk (HKR.out.then_ hk2 (fun k hk => .inl (.inr (.inl hk))))
      clear hr2 hb2 hk2 q0
      have bz := HX2.out.bz
      have q1 := (blk_cell bz 3).trans rfl
      clear bz
      go_wp2_with fail
      refine (laws_markInt64SS.calls k4 okQ _ L2 U3 U4 M2 w0 w2 HB2.out HL2.out HX2.out.u H4.out).mono ?_
      rintro e w3 ⟨rfl, hs3, hb3, hk3⟩
      have HX3 := Aside0.mk (HX2.out.markQ DD.out hs3 hk3)
      have HB3 := Aside0.mk hb3
      have HK3 := Aside0.mk (HK2.out.then_ hk3 (fun k hk => .inl (.inr (.inr hk))))
      clear hs3 hb3 hk3 q1
      go_wp2_with fail
      go_roundw
      case rel => exact ⟨HB3, HK3, .inr (.inr ⟨rfl, rfl, HX3⟩)⟩
      case measure => decide
    · go_wp2_with fail
      go_ret
      exact ⟨rfl, HXR.out, HBR.out, HKR.out⟩
end Go.Proofs.Ytmeggliapebkgaa.F
end
section
namespace Go.Proofs.Ytmeggliapebkgaa.F
open Go.RowKit Go.Proofs.YtmeggliapebkgaaW.PrintWords Go.Proofs.YtmeggliapebkgaaW.PrintLast Go.Proofs.YtmeggliapebkgaaW.PrintMore
attribute [local go_sem] max2_int min2_int max_two min_two max_three min_three max_four min_four   
set_option linter.unusedVariables false
set_option linter.unusedSimpArgs false
def laws_heldInt64SS.l0 : Nat → List (List Int) → Int → Int → Option (Int)
  | 0, _, _, _ => none
  | k + 1, x0, x1, x5 => if x5 < (x0.length : Int) then (if 0 ≤ x5 then ((laws_heldInt64S.f k (rd_L1 x0 x5) x1).bind fun t551002 => (if t551002 < 0 then (some (-1)) else (laws_heldInt64SS.l0 k x0 t551002 (wrap64 (x5 + 1))))) else (none)) else (some x1)
def laws_heldInt64SS.f (k : Nat) (l0 : List (List Int)) (a1 : Int) : Option (Int) := laws_heldInt64SS.l0 k l0 a1 0
theorem laws_heldInt64SS.mono_l : ∀ k, (∀ y0 y1 y2, LeO (laws_heldInt64SS.l0 k y0 y1 y2) (laws_heldInt64SS.l0 (k + 1) y0 y1 y2))
  | 0 => fun _ _ _ r h => by simp [laws_heldInt64SS.l0] at h
  | k + 1 => by
    have ih0 := laws_heldInt64SS.mono_l k
    · intro y0 y1 y2
      unfold laws_heldInt64SS.l0
      repeat' first
      | (with_reducible exact ih0 _ _ _)
      | (with_reducible exact laws_heldInt64S.mono _ _ _)
      | (with_reducible exact LeO.refl _)
      | (with_reducible exact LeO.none _)
      | (with_reducible refine LeO.ite ?_ ?_)
      | (with_reducible refine LeO.bind ?_ (fun _ => ?_))
      | exact ih0 _ _ _
      | exact laws_heldInt64S.mono _ _ _
      | exact LeO.none _
      | refine LeO.ite ?_ ?_
      | refine LeO.bind ?_ (fun _ => ?_)
theorem laws_heldInt64SS.mono : ∀ a0 a1 k, LeO (laws_heldInt64SS.f k a0 a1) (laws_heldInt64SS.f (k + 1) a0 a1) := by
  intro a0 a1 k
  have ih0 := laws_heldInt64SS.mono_l k
  unfold laws_heldInt64SS.f
  repeat' first
      | (with_reducible exact ih0 _ _ _)
      | (with_reducible exact laws_heldInt64S.mono _ _ _)
      | (with_reducible exact LeO.refl _)
      | (with_reducible exact LeO.none _)
      | (with_reducible refine LeO.ite ?_ ?_)
      | (with_reducible refine LeO.bind ?_ (fun _ => ?_))
      | exact ih0 _ _ _
      | exact laws_heldInt64S.mono _ _ _
      | exact LeO.none _
      | refine LeO.ite ?_ ?_
      | refine LeO.bind ?_ (fun _ => ?_)
set_option maxHeartbeats 8000000 in
set_option maxRecDepth 100000 in
theorem laws_heldInt64SS.calls (k : Nat) (A0 : Option Addr) (c0 : Nat) (l0 : List (List Int)) (a1 : Int) (r : Int) (w : World) (hr0 : Kd.C (Kd.slice 2 (Kd.int .i64)) w A0 l0.length l0) (hc0 : l0.length ≤ c0) (h : laws_heldInt64SS.f k l0 a1 = some r) :
    Calls Try.prog 55 #[.slice A0 l0.length c0, .int .i64 a1] w fun e w' => e = .returned (.int .i64 r) ∧ Drawn0 w w' := by
  have HR0 := Aside0.mk hr0
  have HC0 := Aside0.mk hc0
  clear hr0 hc0
  have H : (laws_heldInt64SS.l0 k l0 a1 0) = some r := h
  clear h
  have H' := Aside0.mk H
  clear H
  go_enter Try.func55, Try.ntmps55
  go_wp2
  go_loopg [1, 5] k (fun kq v1 v5 w' => ∃ (x1_1 : Int) (x5_1 : Int), v1 = .int .i64 x1_1 ∧ v5 = .int .i64 x5_1 ∧ Aside0 (laws_heldInt64SS.l0 kq l0 x1_1 x5_1 = some r) ∧ Aside0 (kq ≤ k) ∧ Drawn0 w w')
  case atStart => exact ⟨(a1), (0), (by first | rfl | (simp; done) | (simp [*]; done)), (by first | rfl | (simp; done) | (simp [*]; done)), H', ⟨Nat.le_refl _⟩, by repeat (first | exact Drawn0.refl _ | apply Drawn0.step)⟩
  case round =>
    clear H'
    try clear p2
    obtain ⟨x1_1, x5_1, rfl, rfl, HA, HK1, ⟨m1, rfl⟩⟩ := hrel
    cases gk with
    | zero => exact absurd HA.out (by simp [laws_heldInt64SS.l0])
    | succ k1 =>
      have H := HA.out
      clear HA
      simp only [laws_heldInt64SS.l0] at H
      by_cases c3 : x5_1 < (l0.length : Int)
      rotate_left
      · rw [if_neg c3] at H
        have c3b0 : decide (x5_1 < (l0.length : Int)) = false := decide_eq_false c3
        clear c3
        obtain rfl := Option.some.inj H
        go_wp2
        go_ret
        exact ⟨by first | rfl | (simp; done) | (simp [*]; done), by repeat (first | exact Drawn0.refl _ | apply Drawn0.step)⟩
      rw [if_pos c3] at H
      have c3b0 : decide (x5_1 < (l0.length : Int)) = true := decide_eq_true c3
      clear c3
      by_cases c4 : 0 ≤ x5_1
      rotate_left
      · rw [if_neg c4] at H
        exact absurd H (by simp)
      rw [if_pos c4] at H
      have c4b0 : decide (0 ≤ x5_1) = true := decide_eq_true c4
      clear c4
      replace H := Option.bind_eq_some_iff.mp H
      obtain ⟨t551002, A50, H⟩ := H
      replace H : (if t551002 < 0 then (some (-1)) else (laws_heldInt64SS.l0 k1 l0 t551002 (wrap64 (x5_1 + 1)))) = some r := H
      have A5 := Aside0.mk A50
      clear A50
      by_cases c6 : t551002 < 0
      · rw [if_pos c6] at H
        have c6b0 : decide (t551002 < 0) = true := decide_eq_true c6
        clear c6
        obtain rfl := Option.some.inj H
        have p551001 : 0 ≤ (x5_1 : Int) := of_decide_eq_true (by first | (with_reducible assumption) | assumption)
        have q551001 : x5_1 < (l0.length : Int) := of_decide_eq_true (by first | (with_reducible assumption) | assumption)
        obtain ⟨ad551001, A551001_0, c551001_0, e551001, hx551001_0, hl551001_0, hi551001_0⟩ := at_L1 HR0.out x5_1 p551001 q551001
        cases e551001
        have HR551001_0 := Aside0.mk hi551001_0
        have HC551001_0 := Aside0.mk hl551001_0
        clear hi551001_0 hl551001_0
        replace p551001 := eq_true p551001
        replace q551001 := eq_true q551001
        go_wp2_with (first | ((with_reducible refine gate_callee (f := 29) rfl ?_); refine goesL_ (some 17) rfl rfl Try.func29 (by kernel_rfl) rfl #[.slice A551001_0 (rd_L1 l0 x5_1).length c551001_0, .int .i64 x1_1] rfl (by (try simp only [List.map_toArray, List.map_cons, List.map_nil]); first | done | rfl | (simp only [List.length_drop, List.length_take]; rfl)) ?_; (with_reducible refine (laws_heldInt64S.calls k1 _ _ (rd_L1 l0 x5_1) x1_1 t551002 _ ?side1 ?side2 A5.out).mono ?_); (case side1 => repeat (first | exact HR551001_0.out | (with_reducible refine Kd.C_alloc ?_ _) | (with_reducible refine Kd.C_drewN ?_ _) | (with_reducible refine Kd.C_drew ?_))); (case side2 => exact HC551001_0.out); rintro e w' ⟨rfl, ⟨nd, rfl⟩⟩; refine ⟨_, rfl, ?_⟩))
        go_ret
        exact ⟨by first | rfl | (simp; done) | (simp [*]; done), by repeat (first | exact Drawn0.refl _ | apply Drawn0.step)⟩
      rw [if_neg c6] at H
      have c6b0 : decide (t551002 < 0) = false := decide_eq_false c6
      clear c6
      have H' := Aside0.mk H
      clear H
      have p551001 : 0 ≤ (x5_1 : Int) := of_decide_eq_true (by first | (with_reducible assumption) | assumption)
      have q551001 : x5_1 < (l0.length : Int) := of_decide_eq_true (by first | (with_reducible assumption) | assumption)
      obtain ⟨ad551001, A551001_0, c551001_0, e551001, hx551001_0, hl551001_0, hi551001_0⟩ := at_L1 HR0.out x5_1 p551001 q551001
      cases e551001
      have HR551001_0 := Aside0.mk hi551001_0
      have HC551001_0 := Aside0.mk hl551001_0
      clear hi551001_0 hl551001_0
      replace p551001 := eq_true p551001
      replace q551001 := eq_true q551001
      go_wp2_with (first | ((with_reducible refine gate_callee (f := 29) rfl ?_); refine goesL_ (some 17) rfl rfl Try.func29 (by kernel_rfl) rfl #[.slice A551001_0 (rd_L1 l0 x5_1).length c551001_0, .int .i64 x1_1] rfl (by (try simp only [List.map_toArray, List.map_cons, List.map_nil]); first | done | rfl | (simp only [List.length_drop, List.length_take]; rfl)) ?_; (with_reducible refine (laws_heldInt64S.calls k1 _ _ (rd_L1 l0 x5_1) x1_1 t551002 _ ?side1 ?side2 A5.out).mono ?_); (case side1 => repeat (first | exact HR551001_0.out | (with_reducible refine Kd.C_alloc ?_ _) | (with_reducible refine Kd.C_drewN ?_ _) | (with_reducible refine Kd.C_drew ?_))); (case side2 => exact HC551001_0.out); rintro e w' ⟨rfl, ⟨nd, rfl⟩⟩; refine ⟨_, rfl, ?_⟩))
      go_roundg k1
      case measure => have := HK1.out; omega
      case rel => exact ⟨(t551002), (wrap64 (x5_1 + 1)), (by first | rfl | (simp; done) | (simp [*]; done)), (by first | rfl | (simp; done) | (simp [*]; done)), H', ⟨by have := HK1.out; omega⟩, by repeat (first | exact Drawn0.refl _ | apply Drawn0.step)⟩
end Go.Proofs.Ytmeggliapebkgaa.F
end
section
namespace Go.Proofs.Ytmeggliapebkgaa.F
open Go.RowKit Go.Proofs.YtmeggliapebkgaaW.PrintWords Go.Proofs.YtmeggliapebkgaaW.PrintLast Go.Proofs.YtmeggliapebkgaaW.PrintMore
attribute [local go_sem] max2_int min2_int max_two min_two max_three min_three max_four min_four   
set_option linter.unusedVariables false
set_option linter.unusedSimpArgs false
def laws_heldWebS.l0 : Nat → List (S30) → Int → Int → Option (Int)
 | 0, _, _, _ => none
 | k + 1, x0, x1, x5 => if x5 < (x0.length : Int) then (if 0 ≤ x5 then ((laws_heldInt64S.f k ((rd_T30 x0 x5).f0) x1).bind fun t181002 => (if t181002 < 0 then (some (-1)) else ((laws_heldInt64SS.f k ((rd_T30 x0 x5).f1) t181002).bind fun t181004 => (if t181004 < 0 then (some (-1)) else (laws_heldWebS.l0 k x0 t181004 (wrap64 (x5 + 1))))))) else (none)) else (some x1)
def laws_heldWebS.f (k : Nat) (l0 : List (S30)) (a1 : Int) : Option (Int) := laws_heldWebS.l0 k l0 a1 0
theorem laws_heldWebS.mono_l : ∀ k, (∀ y0 y1 y2, LeO (laws_heldWebS.l0 k y0 y1 y2) (laws_heldWebS.l0 (k + 1) y0 y1 y2))
 | 0 => fun _ _ _ r h => by simp [laws_heldWebS.l0] at h
 | k + 1 => by
  have ih0 := laws_heldWebS.mono_l k
  ·intro y0 y1 y2
   unfold laws_heldWebS.l0
   repeat' first
   | (with_reducible exact ih0 _ _ _)
   | (with_reducible exact laws_heldInt64S.mono _ _ _)
   | (with_reducible exact laws_heldInt64SS.mono _ _ _)
   | (with_reducible exact LeO.refl _)
   | (with_reducible exact LeO.none _)
   | (with_reducible refine LeO.ite ?_ ?_)
   | (with_reducible refine LeO.bind ?_ (fun _ => ?_))
   | exact ih0 _ _ _
   | exact laws_heldInt64S.mono _ _ _
   | exact laws_heldInt64SS.mono _ _ _
   | exact LeO.none _
   | refine LeO.ite ?_ ?_
   | refine LeO.bind ?_ (fun _ => ?_)
theorem laws_heldWebS.mono : ∀ a0 a1 k, LeO (laws_heldWebS.f k a0 a1) (laws_heldWebS.f (k + 1) a0 a1) := by
 intro a0 a1 k
 have ih0 := laws_heldWebS.mono_l k
 unfold laws_heldWebS.f
 repeat' first
   | (with_reducible exact ih0 _ _ _)
   | (with_reducible exact laws_heldInt64S.mono _ _ _)
   | (with_reducible exact laws_heldInt64SS.mono _ _ _)
   | (with_reducible exact LeO.refl _)
   | (with_reducible exact LeO.none _)
   | (with_reducible refine LeO.ite ?_ ?_)
   | (with_reducible refine LeO.bind ?_ (fun _ => ?_))
   | exact ih0 _ _ _
   | exact laws_heldInt64S.mono _ _ _
   | exact laws_heldInt64SS.mono _ _ _
   | exact LeO.none _
   | refine LeO.ite ?_ ?_
   | refine LeO.bind ?_ (fun _ => ?_)
set_option maxHeartbeats 8000000 in
set_option maxRecDepth 100000 in
theorem laws_heldWebS.calls (k : Nat) (A0 : Option Addr) (c0 : Nat) (l0 : List (S30)) (a1 : Int) (r : Int) (w : World) (hr0 : Kd.C k30 w A0 l0.length l0) (hc0 : l0.length ≤ c0) (h : laws_heldWebS.f k l0 a1 = some r) :
  Calls Try.prog 18 #[.slice A0 l0.length c0, .int .i64 a1] w fun e w' => e = .returned (.int .i64 r) ∧ Drawn0 w w' := by
 have HR0 := Aside0.mk hr0
 have HC0 := Aside0.mk hc0
 clear hr0 hc0
 have H : (laws_heldWebS.l0 k l0 a1 0) = some r := h
 clear h
 have H' := Aside0.mk H
 clear H
 go_enter Try.func18, Try.ntmps18
 go_wp2
 go_loopg [1, 5] k (fun kq v1 v5 w' => ∃ (x1_1 : Int) (x5_1 : Int), v1 = .int .i64 x1_1 ∧ v5 = .int .i64 x5_1 ∧ Aside0 (laws_heldWebS.l0 kq l0 x1_1 x5_1 = some r) ∧ Aside0 (kq ≤ k) ∧ Drawn0 w w')
 case atStart => exact ⟨(a1), (0), (by first | rfl | (simp; done) | (simp [*]; done)), (by first | rfl | (simp; done) | (simp [*]; done)), H', ⟨Nat.le_refl _⟩, by repeat (first | exact Drawn0.refl _ | apply Drawn0.step)⟩
 case round =>
  clear H'
  try clear c1
  try clear p2
  obtain ⟨x1_1, x5_1, rfl, rfl, HA, HK1, ⟨m1, rfl⟩⟩ := hrel
  cases gk with
  | zero => exact absurd HA.out (by simp [laws_heldWebS.l0])
  | succ k1 =>
   have H := HA.out
   clear HA
   simp only [laws_heldWebS.l0] at H
   by_cases c3 : x5_1 < (l0.length : Int)
   rotate_left
   ·rw [if_neg c3] at H
    have c3b0 : decide (x5_1 < (l0.length : Int)) = false := decide_eq_false c3
    clear c3
    obtain rfl := Option.some.inj H
    go_wp2
    go_ret
    exact ⟨by first | rfl | (simp; done) | (simp [*]; done), by repeat (first | exact Drawn0.refl _ | apply Drawn0.step)⟩
   rw [if_pos c3] at H
   have c3b0 : decide (x5_1 < (l0.length : Int)) = true := decide_eq_true c3
   clear c3
   by_cases c4 : 0 ≤ x5_1
   rotate_left
   ·rw [if_neg c4] at H
    exact absurd H (by simp)
   rw [if_pos c4] at H
   have c4b0 : decide (0 ≤ x5_1) = true := decide_eq_true c4
   clear c4
   replace H := Option.bind_eq_some_iff.mp H
   obtain ⟨t181002, A50, H⟩ := H
   replace H : (if t181002 < 0 then (some (-1)) else ((laws_heldInt64SS.f k1 ((rd_T30 l0 x5_1).f1) t181002).bind fun t181004 => (if t181004 < 0 then (some (-1)) else (laws_heldWebS.l0 k1 l0 t181004 (wrap64 (x5_1 + 1)))))) = some r := H
   have A5 := Aside0.mk A50
   clear A50
   by_cases c6 : t181002 < 0
   ·rw [if_pos c6] at H
    have c6b0 : decide (t181002 < 0) = true := decide_eq_true c6
    clear c6
    obtain rfl := Option.some.inj H
    have p181001 : 0 ≤ (x5_1 : Int) := of_decide_eq_true (by first | (with_reducible assumption) | assumption)
    have q181001 : x5_1 < (l0.length : Int) := of_decide_eq_true (by first | (with_reducible assumption) | assumption)
    obtain ⟨ad181001, A181001_0, c181001_0, A181001_1, c181001_1, e181001, hx181001_0, hx181001_1, hl181001_0, hi181001_0, hl181001_1, hi181001_1⟩ := at_T30 HR0.out x5_1 p181001 q181001
    cases e181001
    have HR181001_0 := Aside0.mk hi181001_0
    have HC181001_0 := Aside0.mk hl181001_0
    clear hi181001_0 hl181001_0
    have HR181001_1 := Aside0.mk hi181001_1
    have HC181001_1 := Aside0.mk hl181001_1
    clear hi181001_1 hl181001_1
    replace p181001 := eq_true p181001
    replace q181001 := eq_true q181001
    go_wp2_with (first | ((with_reducible refine gate_callee (f := 29) rfl ?_); refine goesL_ (some 18) rfl rfl Try.func29 (by kernel_rfl) rfl #[.slice A181001_0 ((rd_T30 l0 x5_1).f0).length c181001_0, .int .i64 x1_1] rfl (by (try simp only [List.map_toArray, List.map_cons, List.map_nil]); first | done | rfl | (simp only [List.length_drop, List.length_take]; rfl)) ?_; (with_reducible refine (laws_heldInt64S.calls k1 _ _ ((rd_T30 l0 x5_1).f0) x1_1 t181002 _ ?side1 ?side2 A5.out).mono ?_); (case side1 => repeat (first | exact HR181001_0.out | (with_reducible refine Kd.C_alloc ?_ _) | (with_reducible refine Kd.C_drewN ?_ _) | (with_reducible refine Kd.C_drew ?_))); (case side2 => exact HC181001_0.out); rintro e w' ⟨rfl, ⟨nd, rfl⟩⟩; refine ⟨_, rfl, ?_⟩))
    go_ret
    exact ⟨by first | rfl | (simp; done) | (simp [*]; done), by repeat (first | exact Drawn0.refl _ | apply Drawn0.step)⟩
   rw [if_neg c6] at H
   have c6b0 : decide (t181002 < 0) = false := decide_eq_false c6
   clear c6
   replace H := Option.bind_eq_some_iff.mp H
   obtain ⟨t181004, A70, H⟩ := H
   replace H : (if t181004 < 0 then (some (-1)) else (laws_heldWebS.l0 k1 l0 t181004 (wrap64 (x5_1 + 1)))) = some r := H
   have A7 := Aside0.mk A70
   clear A70
   by_cases c8 : t181004 < 0
   ·rw [if_pos c8] at H
    have c8b0 : decide (t181004 < 0) = true := decide_eq_true c8
    clear c8
    obtain rfl := Option.some.inj H
    have p181001 : 0 ≤ (x5_1 : Int) := of_decide_eq_true (by first | (with_reducible assumption) | assumption)
    have q181001 : x5_1 < (l0.length : Int) := of_decide_eq_true (by first | (with_reducible assumption) | assumption)
    obtain ⟨ad181001, A181001_0, c181001_0, A181001_1, c181001_1, e181001, hx181001_0, hx181001_1, hl181001_0, hi181001_0, hl181001_1, hi181001_1⟩ := at_T30 HR0.out x5_1 p181001 q181001
    cases e181001
    have HR181001_0 := Aside0.mk hi181001_0
    have HC181001_0 := Aside0.mk hl181001_0
    clear hi181001_0 hl181001_0
    have HR181001_1 := Aside0.mk hi181001_1
    have HC181001_1 := Aside0.mk hl181001_1
    clear hi181001_1 hl181001_1
    replace p181001 := eq_true p181001
    replace q181001 := eq_true q181001
    go_wp2_with (first | ((with_reducible refine gate_callee (f := 29) rfl ?_); refine goesL_ (some 18) rfl rfl Try.func29 (by kernel_rfl) rfl #[.slice A181001_0 ((rd_T30 l0 x5_1).f0).length c181001_0, .int .i64 x1_1] rfl (by (try simp only [List.map_toArray, List.map_cons, List.map_nil]); first | done | rfl | (simp only [List.length_drop, List.length_take]; rfl)) ?_; (with_reducible refine (laws_heldInt64S.calls k1 _ _ ((rd_T30 l0 x5_1).f0) x1_1 t181002 _ ?side1 ?side2 A5.out).mono ?_); (case side1 => repeat (first | exact HR181001_0.out | (with_reducible refine Kd.C_alloc ?_ _) | (with_reducible refine Kd.C_drewN ?_ _) | (with_reducible refine Kd.C_drew ?_))); (case side2 => exact HC181001_0.out); rintro e w' ⟨rfl, ⟨nd, rfl⟩⟩; refine ⟨_, rfl, ?_⟩; have p181003 : 0 ≤ (x5_1 : Int) := of_decide_eq_true (by first | (with_reducible assumption) | assumption); have q181003 : x5_1 < (l0.length : Int) := of_decide_eq_true (by first | (with_reducible assumption) | assumption); obtain ⟨ad181003, A181003_0, c181003_0, A181003_1, c181003_1, e181003, hx181003_0, hx181003_1, hl181003_0, hi181003_0, hl181003_1, hi181003_1⟩ := at_T30 HR0.out x5_1 p181003 q181003; obtain rfl : ad181001 = ad181003 := (by injection e181003); have HR181003_0 := Aside0.mk hi181003_0; have HC181003_0 := Aside0.mk hl181003_0; clear hi181003_0 hl181003_0; have HR181003_1 := Aside0.mk hi181003_1; have HC181003_1 := Aside0.mk hl181003_1; clear hi181003_1 hl181003_1; replace p181003 := eq_true p181003; replace q181003 := eq_true q181003; have ea_ := Option.some.inj (hx181001_0.symm.trans hx181003_0); injection ea_ with ea_ en_ ec_; subst ea_; subst ec_; clear en_; have ea_ := Option.some.inj (hx181001_1.symm.trans hx181003_1); injection ea_ with ea_ en_ ec_; subst ea_; subst ec_; clear en_) | ((with_reducible refine gate_callee (f := 55) rfl ?_); refine goesL_ (some 27) rfl rfl Try.func55 (by kernel_rfl) rfl #[.slice A181001_1 ((rd_T30 l0 x5_1).f1).length c181001_1, .int .i64 t181002] rfl (by (try simp only [List.map_toArray, List.map_cons, List.map_nil]); first | done | rfl | (simp only [List.length_drop, List.length_take]; rfl)) ?_; (with_reducible refine (laws_heldInt64SS.calls k1 _ _ ((rd_T30 l0 x5_1).f1) t181002 t181004 _ ?side1 ?side2 A7.out).mono ?_); (case side1 => repeat (first | exact HR181003_1.out | (with_reducible refine Kd.C_alloc ?_ _) | (with_reducible refine Kd.C_drewN ?_ _) | (with_reducible refine Kd.C_drew ?_))); (case side2 => exact HC181003_1.out); rintro e w' ⟨rfl, ⟨nd, rfl⟩⟩; refine ⟨_, rfl, ?_⟩))
    go_ret
    exact ⟨by first | rfl | (simp; done) | (simp [*]; done), by repeat (first | exact Drawn0.refl _ | apply Drawn0.step)⟩
   rw [if_neg c8] at H
   have c8b0 : decide (t181004 < 0) = false := decide_eq_false c8
   clear c8
   have H' := Aside0.mk H
   clear H
   have p181001 : 0 ≤ (x5_1 : Int) := of_decide_eq_true (by first | (with_reducible assumption) | assumption)
   have q181001 : x5_1 < (l0.length : Int) := of_decide_eq_true (by first | (with_reducible assumption) | assumption)
   obtain ⟨ad181001, A181001_0, c181001_0, A181001_1, c181001_1, e181001, hx181001_0, hx181001_1, hl181001_0, hi181001_0, hl181001_1, hi181001_1⟩ := at_T30 HR0.out x5_1 p181001 q181001
   cases e181001
   have HR181001_0 := Aside0.mk hi181001_0
   have HC181001_0 := Aside0.mk hl181001_0
   clear hi181001_0 hl181001_0
   have HR181001_1 := Aside0.mk hi181001_1
   have HC181001_1 := Aside0.mk hl181001_1
   clear hi181001_1 hl181001_1
   replace p181001 := eq_true p181001
   replace q181001 := eq_true q181001
   go_wp2_with (first | ((with_reducible refine gate_callee (f := 29) rfl ?_); refine goesL_ (some 18) rfl rfl Try.func29 (by kernel_rfl) rfl #[.slice A181001_0 ((rd_T30 l0 x5_1).f0).length c181001_0, .int .i64 x1_1] rfl (by (try simp only [List.map_toArray, List.map_cons, List.map_nil]); first | done | rfl | (simp only [List.length_drop, List.length_take]; rfl)) ?_; (with_reducible refine (laws_heldInt64S.calls k1 _ _ ((rd_T30 l0 x5_1).f0) x1_1 t181002 _ ?side1 ?side2 A5.out).mono ?_); (case side1 => repeat (first | exact HR181001_0.out | (with_reducible refine Kd.C_alloc ?_ _) | (with_reducible refine Kd.C_drewN ?_ _) | (with_reducible refine Kd.C_drew ?_))); (case side2 => exact HC181001_0.out); rintro e w' ⟨rfl, ⟨nd, rfl⟩⟩; refine ⟨_, rfl, ?_⟩; have p181003 : 0 ≤ (x5_1 : Int) := of_decide_eq_true (by first | (with_reducible assumption) | assumption); have q181003 : x5_1 < (l0.length : Int) := of_decide_eq_true (by first | (with_reducible assumption) | assumption); obtain ⟨ad181003, A181003_0, c181003_0, A181003_1, c181003_1, e181003, hx181003_0, hx181003_1, hl181003_0, hi181003_0, hl181003_1, hi181003_1⟩ := at_T30 HR0.out x5_1 p181003 q181003; obtain rfl : ad181001 = ad181003 := (by injection e181003); have HR181003_0 := Aside0.mk hi181003_0; have HC181003_0 := Aside0.mk hl181003_0; clear hi181003_0 hl181003_0; have HR181003_1 := Aside0.mk hi181003_1; have HC181003_1 := Aside0.mk hl181003_1; clear hi181003_1 hl181003_1; replace p181003 := eq_true p181003; replace q181003 := eq_true q181003; have ea_ := Option.some.inj (hx181001_0.symm.trans hx181003_0); injection ea_ with ea_ en_ ec_; subst ea_; subst ec_; clear en_; have ea_ := Option.some.inj (hx181001_1.symm.trans hx181003_1); injection ea_ with ea_ en_ ec_; subst ea_; subst ec_; clear en_) | ((with_reducible refine gate_callee (f := 55) rfl ?_); refine goesL_ (some 27) rfl rfl Try.func55 (by kernel_rfl) rfl #[.slice A181001_1 ((rd_T30 l0 x5_1).f1).length c181001_1, .int .i64 t181002] rfl (by (try simp only [List.map_toArray, List.map_cons, List.map_nil]); first | done | rfl | (simp only [List.length_drop, List.length_take]; rfl)) ?_; (with_reducible refine (laws_heldInt64SS.calls k1 _ _ ((rd_T30 l0 x5_1).f1) t181002 t181004 _ ?side1 ?side2 A7.out).mono ?_); (case side1 => repeat (first | exact HR181003_1.out | (with_reducible refine Kd.C_alloc ?_ _) | (with_reducible refine Kd.C_drewN ?_ _) | (with_reducible refine Kd.C_drew ?_))); (case side2 => exact HC181003_1.out); rintro e w' ⟨rfl, ⟨nd, rfl⟩⟩; refine ⟨_, rfl, ?_⟩))
   go_roundg k1
   case measure => have := HK1.out; omega
   case rel => exact ⟨(t181004), (wrap64 (x5_1 + 1)), (by first | rfl | (simp; done) | (simp [*]; done)), (by first | rfl | (simp; done) | (simp [*]; done)), H', ⟨by have := HK1.out; omega⟩, by repeat (first | exact Drawn0.refl _ | apply Drawn0.step)⟩
end Go.Proofs.Ytmeggliapebkgaa.F
end
section
namespace Go.Proofs.Ytmeggliapebkgaa.F
open Go.RowKit Go.Proofs.YtmeggliapebkgaaW.PrintWords Go.Proofs.YtmeggliapebkgaaW.PrintLast Go.Proofs.YtmeggliapebkgaaW.PrintMore
attribute [local go_sem] max2_int min2_int max_two min_two max_three min_three max_four min_four   
set_option linter.unusedVariables false
set_option linter.unusedSimpArgs false
open Go.Proofs.Ytmeggliapebkgaa.Mem
theorem calls_eqTW {P : Program} {f : FuncId} {xs xs' : Array Value} {w : World} {Q : Ending → World → Prop} (h : xs' = xs) (hc : Calls P f xs w Q) : Calls P f xs' w Q := h ▸ hc
structure Handed3 (R R' : List S30) (U : Int) (OWN MK : Nat → World → Option Addr → Prop) : Prop where
 reads : ∀ B w A, OWN B w A → Kd.C k30 w A R.length R
 below : ∀ B w w' A, OWN B w A → Below w.heap.size w w' → OWN B w' A
 elder : ∀ B w w' A (S : Nat → Prop), OWN B w A → Kept w w' S → (∀ k, S k → k < B) → OWN B w' A
 mark : ∀ B (w0 w : World) A, OWN B w A → Below w0.heap.size w0 w → w0.heap.size ≤ B → Calls Try.prog 17 #[.slice A R.length R.length, .int .i64 1] w fun e w' => e = .returned (.int .i64 U) ∧ MK B w' A ∧ Below w0.heap.size w0 w'
 mreads : ∀ B w A, MK B w A → Kd.C k30 w A R'.length R'
 mbelow : ∀ B w w' A, MK B w A → Below w.heap.size w w' → MK B w' A
 len : R'.length = R.length
set_option maxHeartbeats 16000000 in
set_option maxRecDepth 100000 in
theorem three_returns (k0 k1 k4 k5 k6 k7 ka : Nat) (A0 : Option Addr) (c0 : Nat) (l : List Int) (A1 : Option Addr) (c1 : Nat) (L : List (List Int)) (e t c : Int) (R R' : List S30) (T0 T U : Int) (m0 : List Int) (M : List (List Int)) (OWN MK : Nat → World → Option Addr → Prop) (w : World)
  (hr0 : Kd.C (Kd.int .i64) w A0 l.length l) (hc0 : l.length ≤ c0) (hr1 : Kd.C (Kd.slice 2 (Kd.int .i64)) w A1 L.length L) (hc1 : L.length ≤ c1)
  (e0 : laws_szWeb.f k0 l L 1048576 = some t) (ht : 0 ≤ t) (e1 : laws_toWeb.f k1 l L = some (l, L))
  (hS : ∀ (X0 : Option Addr) (x0 : Nat) (X1 : Option Addr) (x1 : Nat) (v : World), Kd.C (Kd.int .i64) v X0 l.length l → l.length ≤ x0 → Kd.C (Kd.slice 2 (Kd.int .i64)) v X1 L.length L → L.length ≤ x1 → Calls Try.prog 11 #[.agg #[.slice X0 l.length x0, .slice X1 L.length x1], .int .i64 e] v fun x v' => ∃ A, x = .returned (.tuple #[.slice A R.length R.length, .int .i64 c]) ∧ Kd.C k30 v' A R.length R ∧ Below v.heap.size v v')
  (hI : ∀ (X0 : Option Addr) (x0 : Nat) (X1 : Option Addr) (x1 : Nat) (v : World), Kd.C (Kd.int .i64) v X0 l.length l → l.length ≤ x0 → Kd.C (Kd.slice 2 (Kd.int .i64)) v X1 L.length L → L.length ≤ x1 → Calls Try.prog 13 #[.agg #[.slice X0 l.length x0, .slice X1 L.length x1], .int .i64 e] v fun x v' => ∃ A, x = .returned (.tuple #[.slice A R.length R.length, .int .i64 c]) ∧ OWN v.heap.size v' A ∧ Below v.heap.size v v')
  (hH : Handed3 R R' U OWN MK) (e4 : laws_eqWebS.f k4 R R = some true) (e5 : laws_eqWeb.f k5 l L l L = some true)
  (e6 : laws_markInt64S.f k6 l 1 = some (T0, m0)) (e7 : laws_markInt64SS.f k7 L T0 = some (T, M)) (hT : 0 ≤ T) (hU : 0 ≤ U) (ea : laws_heldWebS.f ka R' 1 = some U) (hL : L.length ≤ 1000000000) :
  Calls Try.prog 3 #[.agg #[.slice A0 l.length c0, .slice A1 L.length c1], .int .i64 e] w fun x w' => x = .returned (.bool true) ∧ Below w.heap.size w w' := by
 have hu25 := Try.underlying25
 have hu28 := Try.underlying30
 have HR0 := Aside0.mk hr0
 have HC0 := Aside0.mk hc0
 have HR1 := Aside0.mk hr1
 have HC1 := Aside0.mk hc1
 have E0 := Aside0.mk e0
 have E1 := Aside0.mk e1
 have HS := Aside0.mk hS
 have HI := Aside0.mk hI
 have HH := Aside0.mk hH
 have E4 := Aside0.mk e4
 have E5 := Aside0.mk e5
 have E6 := Aside0.mk e6
 have E7 := Aside0.mk e7
 have EA := Aside0.mk ea
 have HL := Aside0.mk hL
 have t1 : decide (t < 0) = false := decide_eq_false (by omega)
 have t2 : decide (T < 0) = false := decide_eq_false (by omega)
 have t3 : decide (U < 0) = false := decide_eq_false (by omega)
 clear hr0 hc0 hr1 hc1 e0 ht e1 hS hI hH e4 e5 e6 e7 hT hU ea hL
 go_enter Try.func3, Try.ntmps3
 go_wp2_with fail
 have b2 := @new_at w (.cells #[.slice A0 l.length c0, .slice A1 L.length c1] 25) _ rfl
 have hB := below_alloc (Below.refl w.heap.size w) (.cells #[.slice A0 l.length c0, .slice A1 L.length c1] 25)
 generalize (w.alloc (.cells #[.slice A0 l.length c0, .slice A1 L.length c1] 25)) = Wa at b2 hB ⊢
 refine (laws_szWeb.calls k0 A0 c0 l A1 c1 L 1048576 t _ (Kd.C_below HR0.out hB) HC0.out (Kd.C_below HR1.out hB) HC1.out E0.out).mono ?_
 rintro x w1 ⟨rfl, hb⟩
 have b2 := blk_below b2 hb
 have HB := Aside0.mk (below_step hB hb)
 have q20 := (blk_cell b2 0).trans rfl
 have q21 := (blk_cell b2 1).trans rfl
 have B2 := Aside0.mk b2
 clear b2 hB hb
 clear b2
 go_wp2_with fail
 refine (laws_toWeb.calls k1 A0 c0 l A1 c1 L l L _ (Kd.C_below HR0.out HB.out) HC0.out (Kd.C_below HR1.out HB.out) HC1.out E1.out).mono ?_
 rintro x w2 ⟨v0, v1, rfl, ho0, ho1, hb⟩
 obtain ⟨X0, d0, rfl, hl0, hC0⟩ := Kd.R_reads ho0
 obtain ⟨X1, d1, rfl, hl1, hC1⟩ := Kd.S_reads ho1
 have B2 := Aside0.mk (blk_below B2.out hb)
 have HB := Aside0.mk (below_step HB.out hb)
 have HX := Aside0.mk (And.intro hl0 (And.intro hC0 (And.intro hl1 hC1)))
 clear ho0 ho1 hb hl0 hC0 hl1 hC1 q20 q21
 go_wp2_with fail
 refine (HS.out X0 d0 X1 d1 _ HX.out.2.1 HX.out.1 HX.out.2.2.2 HX.out.2.2.1).mono ?_
 rintro x w3 ⟨Y, rfl, hY, hb⟩
 have HY := Aside0.mk hY
 have b2 := blk_below B2.out hb
 have q20 := (blk_cell b2 0).trans rfl
 have q21 := (blk_cell b2 1).trans rfl
 have B2 := Aside0.mk b2
 have HB := Aside0.mk (below_step HB.out hb)
 clear hY hb HX b2
 go_wp2_with fail
 refine (laws_toWeb.calls k1 A0 c0 l A1 c1 L l L w3 (Kd.C_below HR0.out HB.out) HC0.out (Kd.C_below HR1.out HB.out) HC1.out E1.out).mono ?_
 rintro x w4 ⟨v0, v1, rfl, ho0, ho1, hb⟩
 obtain ⟨X0, d0, rfl, hl0, hC0⟩ := Kd.R_reads ho0
 obtain ⟨X1, d1, rfl, hl1, hC1⟩ := Kd.S_reads ho1
 have O4 := Aside0.mk (Kd.R_alloc (Kd.R_mono (ok' := fun k => k < w4.heap.size) (Kd.R_bound ho0) (fun k hk => hk.2.2.1)) (.cells #[.slice X0 l.length d0, .slice X1 L.length d1] 30))
 have S4 := Aside0.mk (Kd.S_alloc (Kd.S_mono (ok' := fun k => some k ≠ (Value.slice X0 l.length d0).ownBlock ∧ k < w4.heap.size) (Kd.S_bound ho1) (fun k hk => ⟨hk.1, hk.2.2.1⟩)) (.cells #[.slice X0 l.length d0, .slice X1 L.length d1] 30))
 have b8 := @new_at w4 (.cells #[.slice X0 l.length d0, .slice X1 L.length d1] 30) _ rfl
 have q80 := (blk_cell b8 0).trans rfl
 have q81 := (blk_cell b8 1).trans rfl
 have B8 := Aside0.mk b8
 have K4 := Aside0.mk (below_alloc hb (.cells #[.slice X0 l.length d0, .slice X1 L.length d1] 30))
 have hX := Aside0.mk (And.intro hl0 (And.intro (Kd.C_alloc hC0 (.cells #[.slice X0 l.length d0, .slice X1 L.length d1] 30)) (And.intro hl1 (Kd.C_alloc hC1 (.cells #[.slice X0 l.length d0, .slice X1 L.length d1] 30)))))
 have Z4 := Aside0.mk (show (w4.alloc (.cells #[.slice X0 l.length d0, .slice X1 L.length d1] 30)).heap.size = w4.heap.size + 1 by simp)
 clear ho0 ho1 hb hl0 hC0 hl1 hC1 q20 q21 b8
 go_wp2_with fail
 generalize (w4.alloc (.cells #[.slice X0 l.length d0, .slice X1 L.length d1] 30)) = W4 at O4 S4 B8 K4 hX Z4 q80 q81 ⊢
 refine (HI.out X0 d0 X1 d1 W4 hX.out.2.1 hX.out.1 hX.out.2.2.2 hX.out.2.2.1).mono ?_
 rintro x w5 ⟨G, rfl, hG, hb⟩
 have HG := Aside0.mk hG
 have K45 := Aside0.mk hb
 have K5 := Aside0.mk (below_step K4.out hb)
 clear hG hb q80 q81
 go_wp2_with fail
 refine (laws_eqWebS.calls k4 G R.length R Y R.length R true w5 (HH.out.reads _ _ _ HG.out) (Nat.le_refl _) (Kd.C_below HY.out K5.out) (Nat.le_refl _) E4.out).mono ?_
 rintro x w6 ⟨rfl, hb⟩
 have K6 := Aside0.mk (below_step K5.out hb)
 have K56 := Aside0.mk hb
 have b2' := blk_below B2.out K6.out
 have b8' := blk_below B8.out (below_step K45.out hb)
 have q20 := (blk_cell b2' 0).trans rfl
 have q21 := (blk_cell b2' 1).trans rfl
 have q80 := (blk_cell b8' 0).trans rfl
 have q81 := (blk_cell b8' 1).trans rfl
 have B26 := Aside0.mk b2'
 have B86 := Aside0.mk b8'
 clear hb b2' b8'
 go_wp2_with fail
 go_region_law (first
  | (refine goes_ Try.func12 (by kernel_rfl) rfl #[.agg #[.slice A0 l.length c0, .slice A1 L.length c1]] (by rfl) rfl rfl (by simp [Act.eval, Act.put]) ?_; refine (laws_toWeb.calls k1 A0 c0 l A1 c1 L l L _ ?s1 HC0.out ?s2 HC1.out E1.out).mono ?_; (case s1 => first | exact Kd.C_below HR0.out (below_step HB.out K6.out) | exact Kd.C_drew (Kd.C_below HR0.out (below_step HB.out K6.out))); (case s2 => first | exact Kd.C_below HR1.out (below_step HB.out K6.out) | exact Kd.C_drew (Kd.C_below HR1.out (below_step HB.out K6.out))); rintro x w7 ⟨v0, v1, rfl, ho0, ho1, hb⟩; obtain ⟨Z0, z0, rfl, hl0, hC0⟩ := Kd.R_reads ho0; obtain ⟨Z1, z1, rfl, hl1, hC1⟩ := Kd.S_reads ho1; have hZ := Aside0.mk (And.intro hl0 (And.intro hC0 (And.intro hl1 hC1))); have K67 : Aside0 (Below w6.heap.size w6 w7) := ⟨by first | exact hb | exact below_step (below_drew1 (Below.refl _ _)) hb⟩; clear ho0 ho1 hb hl0 hC0 hl1 hC1; (try have b87 := blk_below B86.out K67.out); (try have q807 := (blk_cell b87 0).trans rfl); (try have q817 := (blk_cell b87 1).trans rfl); (try clear b87); refine ⟨_, rfl, ?_⟩)
  | (refine goes_ Try.func15 (by kernel_rfl) rfl #[.agg #[.slice X0 l.length d0, .slice X1 L.length d1], .agg #[.slice Z0 l.length z0, .slice Z1 L.length z1]] (by rfl) rfl rfl (by simp [Act.eval, Act.put]) ?_; refine (laws_eqWeb.calls k5 X0 d0 l X1 d1 L Z0 z0 l Z1 z1 L true _ (Kd.C_below hX.out.2.1 (below_step K45.out (below_step K56.out K67.out))) hX.out.1 (Kd.C_below hX.out.2.2.2 (below_step K45.out (below_step K56.out K67.out))) hX.out.2.2.1 hZ.out.2.1 hZ.out.1 hZ.out.2.2.2 hZ.out.2.2.1 E5.out).mono ?_; rintro x w8 ⟨rfl, hb⟩; have K68 := Aside0.mk (below_step K67.out hb); clear hb; refine ⟨_, rfl, ?_⟩))
 all_goals
  have K8 := Aside0.mk (below_step K6.out K68.out)
  have K48 := Aside0.mk (below_step K45.out (below_step K56.out K68.out))
  have K58 := Aside0.mk (below_step K56.out K68.out)
  have q80 := (blk_cell (blk_below B86.out K68.out) 0).trans rfl
  have q81 := (blk_cell (blk_below B86.out K68.out) 1).trans rfl
  clear q20 q21
  (try clear q807 q817)
  go_wp2_with fail
  refine (markWeb_walk k6 k7 (fun k => some k = (Value.slice X0 l.length d0).ownBlock ∧ k < w4.heap.size) (fun k => some k ≠ (Value.slice X0 l.length d0).ownBlock ∧ k < w4.heap.size) X0 d0 l X1 d1 L 1 T0 T m0 M w3 w8 K8.out HL.out (Kd.R_below (Kd.R_tight2 rfl O4.out) K48.out) (Kd.S_below S4.out K48.out) (fun k h1 h0 => h1.1 h0.1) E6.out E7.out).mono ?_
  rintro x w9 ⟨rfl, _, _, hb9, hk9⟩
  have K9 := Aside0.mk hb9
  have G9 := Aside0.mk (HH.out.elder _ _ _ _ _ (HH.out.below _ _ _ _ HG.out K58.out) hk9 (fun k hk => by have := Z4.out; rcases hk with h | h <;> (have := h.2; omega)))
  clear hb9 hk9 q80 q81
  go_wp2_with fail
  refine (laws_eqWebS.calls k4 G R.length R Y R.length R true w9 (HH.out.reads _ _ _ G9.out) (Nat.le_refl _) (Kd.C_below HY.out K9.out) (Nat.le_refl _) E4.out).mono ?_
  rintro x w10 ⟨rfl, hb⟩
  have K10 := Aside0.mk (below_step K9.out hb)
  have G10 := Aside0.mk (HH.out.below _ _ _ _ G9.out hb)
  clear hb
  go_wp2_with fail
  refine (HH.out.mark _ w3 w10 G G10.out K10.out K4.out.size).mono ?_
  rintro x w11 ⟨rfl, hm, hb⟩
  have K11 := Aside0.mk hb
  have M11 := Aside0.mk hm
  clear hb hm
  go_wp2_with fail
  refine calls_eqTW (xs := #[.slice G R'.length R'.length, .int .i64 1]) (by rw [HH.out.len]) ?_
  refine (laws_heldWebS.calls ka G R'.length R' 1 U w11 (HH.out.mreads _ _ _ M11.out) (Nat.le_refl _) EA.out).mono ?_
  rintro x w12 ⟨rfl, ⟨nd, rfl⟩⟩
  have K12 := Aside0.mk (pw_below_drewN K11.out nd)
  have b2' := blk_below B2.out K12.out
  have q20 := (blk_cell b2' 0).trans rfl
  have q21 := (blk_cell b2' 1).trans rfl
  clear b2'
  go_wp2_with fail
  refine (laws_toWeb.calls k1 A0 c0 l A1 c1 L l L _ (Kd.C_below HR0.out (below_step HB.out K12.out)) HC0.out (Kd.C_below HR1.out (below_step HB.out K12.out)) HC1.out E1.out).mono ?_
  rintro x w13 ⟨v0, v1, rfl, ho0, ho1, hb⟩
  obtain ⟨V0, p0, rfl, hl0, hC0⟩ := Kd.R_reads ho0
  obtain ⟨V1, p1, rfl, hl1, hC1⟩ := Kd.S_reads ho1
  have hV := Aside0.mk (And.intro hl0 (And.intro hC0 (And.intro hl1 hC1)))
  have K13 := Aside0.mk (below_step K12.out hb)
  have K1113 := Aside0.mk (below_step (pw_below_drewN (Below.refl w11.heap.size w11) nd) hb)
  clear ho0 ho1 hb hl0 hC0 hl1 hC1 q20 q21
  go_wp2_with fail
  refine (HI.out V0 p0 V1 p1 w13 hV.out.2.1 hV.out.1 hV.out.2.2.2 hV.out.2.2.1).mono ?_
  rintro x w14 ⟨D, rfl, hD, hb⟩
  have HD := Aside0.mk hD
  have K14 := Aside0.mk (below_step K13.out hb)
  have K1114 := Aside0.mk (below_step K1113.out hb)
  clear hD hb
  go_wp2_with fail
  refine (laws_eqWebS.calls k4 D R.length R Y R.length R true w14 (HH.out.reads _ _ _ HD.out) (Nat.le_refl _) (Kd.C_below HY.out K14.out) (Nat.le_refl _) E4.out).mono ?_
  rintro x w15 ⟨rfl, hb⟩
  have K15 := Aside0.mk (below_step K14.out hb)
  have K1115 := Aside0.mk (below_step K1114.out hb)
  clear hb
  go_wp2_with fail
  refine calls_eqTW (xs := #[.slice G R'.length R'.length, .int .i64 1]) (by rw [HH.out.len]) ?_
  refine (laws_heldWebS.calls ka G R'.length R' 1 U w15 (HH.out.mreads _ _ _ (HH.out.mbelow _ _ _ _ M11.out K1115.out)) (Nat.le_refl _) EA.out).mono ?_
  rintro x w16 ⟨rfl, ⟨nd2, rfl⟩⟩
  have K16 := Aside0.mk (pw_below_drewN K15.out nd2)
  go_wp2
  go_ret
  exact ⟨rfl, below_step HB.out K16.out⟩
set_option maxHeartbeats 4000000 in
set_option maxRecDepth 100000 in
theorem three_big (k0 : Nat) (A0 : Option Addr) (c0 : Nat) (l : List Int) (A1 : Option Addr) (c1 : Nat) (L : List (List Int)) (e t : Int) (w : World)
  (hr0 : Kd.C (Kd.int .i64) w A0 l.length l) (hc0 : l.length ≤ c0) (hr1 : Kd.C (Kd.slice 2 (Kd.int .i64)) w A1 L.length L) (hc1 : L.length ≤ c1) (e0 : laws_szWeb.f k0 l L 1048576 = some t) (ht : t < 0) :
  Calls Try.prog 3 #[.agg #[.slice A0 l.length c0, .slice A1 L.length c1], .int .i64 e] w fun x w' => x = .returned (.bool true) ∧ Below w.heap.size w w' := by
 have hu25 := Try.underlying25
 have HR0 := Aside0.mk hr0
 have HR1 := Aside0.mk hr1
 have t1 : decide (t < 0) = true := decide_eq_true ht
 clear hr0 hr1 ht
 go_enter Try.func3, Try.ntmps3
 go_wp2_with fail
 have hB := below_alloc (Below.refl w.heap.size w) (.cells #[.slice A0 l.length c0, .slice A1 L.length c1] 25)
 generalize (w.alloc (.cells #[.slice A0 l.length c0, .slice A1 L.length c1] 25)) = Wa at hB ⊢
 refine (laws_szWeb.calls k0 A0 c0 l A1 c1 L 1048576 t _ (Kd.C_below HR0.out hB) hc0 (Kd.C_below HR1.out hB) hc1 e0).mono ?_
 rintro x w1 ⟨rfl, hb⟩
 have HB := Aside0.mk (below_step hB hb)
 clear hB hb
 go_wp2
 go_ret
 exact ⟨rfl, HB.out⟩
set_option maxHeartbeats 4000000 in
set_option maxRecDepth 100000 in
theorem markWebS_nil (a : Int) (w : World) : Calls Try.prog 17 #[.slice none 0 0, .int .i64 a] w fun e w' => e = .returned (.int .i64 a) ∧ w' = w := by
 go_enter Try.func17, Try.ntmps17
 go_wp2
 go_loopw [1, 5] (fun s1 s5 wr => s1 = .int .i64 a ∧ s5 = .int .i64 0 ∧ wr = w) (fun _ _ _ => 0)
 case atStart => exact ⟨rfl, rfl, rfl⟩
 case round =>
  obtain ⟨rfl, rfl, rfl⟩ := hrel
  go_wp2
  go_ret
  exact ⟨rfl, rfl⟩
theorem handed_nil : Handed3 [] [] 1 (fun _ _ A => A = none) (fun _ _ A => A = none) where
 reads := fun _ w A h => by subst h; exact ⟨rfl, Nat.zero_le _, fun hp => absurd hp (Nat.lt_irrefl _)⟩
 below := fun _ _ _ _ h _ => h
 elder := fun _ _ _ _ _ h _ _ => h
 mark := fun B w0 w A h hb _ => by
  subst h
  refine (markWebS_nil 1 w).mono ?_
  rintro e w' ⟨rfl, rfl⟩
  exact ⟨rfl, rfl, hb⟩
 mreads := fun _ w A h => by subst h; exact ⟨rfl, Nat.zero_le _, fun hp => absurd hp (Nat.lt_irrefl _)⟩
 mbelow := fun _ _ _ _ h _ => h
 len := rfl
theorem TwoX.reads {B : Nat} {okR okP okT okQ : Nat → Prop} {z : Nat} {G0 : Option Addr} {g0 : Nat} {G1 : Option Addr} {g1 : Nat} {G2 : Option Addr} {g2 : Nat} {G3 : Option Addr} {g3 : Nat} {m1 n1 m2 n2 : Nat} {l1 l2 : List Int} {L1 L2 : List (List Int)} {w : World} (h : TwoX B okR okP okT okQ z G0 g0 G1 g1 G2 g2 G3 g3 m1 n1 m2 n2 l1 l2 L1 L2 w) : Kd.C k30 w (some ⟨z, 0, none⟩) 2 [⟨l1, L1⟩, ⟨l2, L2⟩] := by
 obtain ⟨e0, k0, d0⟩ := Kd.R_reads' h.r
 obtain ⟨e1, k1, d1⟩ := Kd.S_reads' h.s
 obtain ⟨e2, k2, d2⟩ := Kd.R_reads' h.t
 obtain ⟨e3, k3, d3⟩ := Kd.S_reads' h.u
 have bz := h.bz
 clear h
 subst e0 e1 e2 e3
 exact C_two bz d0 k0 d1 rfl k1 d2 k2 d3 rfl k3
def Own3 (l : List Int) (n : Nat) (L1 L2 : List (List Int)) (B : Nat) (w : World) (A : Option Addr) : Prop :=
 ∃ (z : Nat) (G0 : Option Addr) (g0 : Nat) (G1 : Option Addr) (g1 : Nat) (G2 : Option Addr) (g2 : Nat) (G3 : Option Addr) (g3 : Nat) (okR okP okT okQ : Nat → Prop), A = some ⟨z, 0, none⟩ ∧ TwoX B okR okP okT okQ z G0 g0 G1 g1 G2 g2 G3 g3 l.length n l.length n l l L1 L2 w ∧ Parted okR okP okT okQ z ∧ (∀ k, okR k → B ≤ k) ∧ (∀ k, okP k → B ≤ k) ∧ (∀ k, okT k → B ≤ k) ∧ (∀ k, okQ k → B ≤ k) ∧ B ≤ z
def Mk3 (m n : Nat) (r1 r2 : List Int) (L1 L2 : List (List Int)) (_ : Nat) (w : World) (A : Option Addr) : Prop :=
 ∃ (b z : Nat) (G0 : Option Addr) (g0 : Nat) (G1 : Option Addr) (g1 : Nat) (G2 : Option Addr) (g2 : Nat) (G3 : Option Addr) (g3 : Nat) (okR okP okT okQ : Nat → Prop), A = some ⟨z, 0, none⟩ ∧ TwoX b okR okP okT okQ z G0 g0 G1 g1 G2 g2 G3 g3 m n m n r1 r2 L1 L2 w
theorem TwoX.lower {B B' : Nat} {okR okP okT okQ : Nat → Prop} {z : Nat} {G0 : Option Addr} {g0 : Nat} {G1 : Option Addr} {g1 : Nat} {G2 : Option Addr} {g2 : Nat} {G3 : Option Addr} {g3 : Nat} {m1 n1 m2 n2 : Nat} {l1 l2 : List Int} {L1 L2 : List (List Int)} {w : World} (h : TwoX B okR okP okT okQ z G0 g0 G1 g1 G2 g2 G3 g3 m1 n1 m2 n2 l1 l2 L1 L2 w) (hb : B' ≤ B) : TwoX B' okR okP okT okQ z G0 g0 G1 g1 G2 g2 G3 g3 m1 n1 m2 n2 l1 l2 L1 L2 w :=
 ⟨Kd.R_lower h.r hb, Kd.S_lower h.s hb, Kd.R_lower h.t hb, Kd.S_lower h.u hb, h.bz⟩
theorem handed_two {l : List Int} {n : Nat} {L1 L2 : List (List Int)} {k1 k2 k3 k4 : Nat} {U1 U2 U3 U4 : Int} {r1 r2 : List Int} {M1 M2 : List (List Int)} (hl1 : L1.length ≤ 1000000000) (hl2 : L2.length ≤ 1000000000) (h1 : laws_markInt64S.f k1 l 1 = some (U1, r1)) (h2 : laws_markInt64SS.f k2 L1 U1 = some (U2, M1)) (h3 : laws_markInt64S.f k3 l U2 = some (U3, r2)) (h4 : laws_markInt64SS.f k4 L2 U3 = some (U4, M2)) :
  Handed3 [⟨l, L1⟩, ⟨l, L2⟩] [⟨r1, M1⟩, ⟨r2, M2⟩] U4 (Own3 l n L1 L2) (Mk3 l.length n r1 r2 M1 M2) where
 reads := fun B w A h => by
  obtain ⟨z, G0, g0, G1, g1, G2, g2, G3, g3, okR, okP, okT, okQ, rfl, hX, _⟩ := h
  exact hX.reads
 below := fun B w w' A h hb => by
  obtain ⟨z, G0, g0, G1, g1, G2, g2, G3, g3, okR, okP, okT, okQ, rfl, hX, h2⟩ := h
  exact ⟨z, G0, g0, G1, g1, G2, g2, G3, g3, okR, okP, okT, okQ, rfl, hX.below hb, h2⟩
 elder := fun B w w' A S h hk hS => by
  obtain ⟨z, G0, g0, G1, g1, G2, g2, G3, g3, okR, okP, okT, okQ, rfl, hX, hD, b1, b2, b3, b4, b5⟩ := h
  have key : ∀ {ok : Nat → Prop}, (∀ k, ok k → B ≤ k) → ∀ k, ok k → ¬ S k := fun hb k hk h => by have := hb k hk; have := hS k h; omega
  exact ⟨z, G0, g0, G1, g1, G2, g2, G3, g3, okR, okP, okT, okQ, rfl, hX.kept hk (key b1) (key b2) (key b3) (key b4) (fun h => by have := hS z h; omega), hD, b1, b2, b3, b4, b5⟩
 mark := fun B w0 w A h hb hB => by
  obtain ⟨z, G0, g0, G1, g1, G2, g2, G3, g3, okR, okP, okT, okQ, rfl, hX, hD, b1, b2, b3, b4, b5⟩ := h
  refine (markTwo_walk k1 k2 k3 k4 okR okP okT okQ z G0 g0 G1 g1 G2 g2 G3 g3 _ _ _ _ l l L1 L2 1 U1 U2 U3 U4 r1 r2 M1 M2 w0 w hb hD (hX.lower hB) hl1 hl2 h1 h2 h3 h4).mono ?_
  rintro e w' ⟨rfl, hX', hb', _⟩
  exact ⟨rfl, ⟨_, z, G0, g0, G1, g1, G2, g2, G3, g3, okR, okP, okT, okQ, rfl, hX'⟩, hb'⟩
 mreads := fun B w A h => by
  obtain ⟨b, z, G0, g0, G1, g1, G2, g2, G3, g3, okR, okP, okT, okQ, rfl, hX⟩ := h
  exact hX.reads
 mbelow := fun B w w' A h hb => by
  obtain ⟨b, z, G0, g0, G1, g1, G2, g2, G3, g3, okR, okP, okT, okQ, rfl, hX⟩ := h
  exact ⟨b, z, G0, g0, G1, g1, G2, g2, G3, g3, okR, okP, okT, okQ, rfl, hX.below hb⟩
 len := rfl
theorem own3_of {w w' : World} {z B : Nat} {G0 : Option Addr} {g0 gp g1 : Nat} {G2 : Option Addr} {g2 gq g3 p q : Nat} {okR okP okT okQ : Nat → Prop} {l : List Int} {n : Nat} {L1 L2 : List (List Int)} (hz : w'.heap[z]? = some (.cells #[.slice G0 l.length g0, .slice (some ⟨gp, 0, none⟩) n g1, .slice G2 l.length g2, .slice (some ⟨gq, 0, none⟩) n g3] 30 (0, 0))) (T : TwoW B okR okP okT okQ G0 g0 gp g1 G2 g2 gq g3 p q l n L1 L2 w')
  (d1 : ∀ k, okP k → ¬ okR k) (d2 : ∀ k, okT k → ¬ okR k) (d3 : ∀ k, okT k → ¬ okP k) (d4 : ∀ k, okQ k → ¬ okR k) (d5 : ∀ k, okQ k → ¬ okP k) (d6 : ∀ k, okQ k → ¬ okT k) (a1 : ∀ k, okR k → k < z) (a2 : ∀ k, okP k → k < z) (a3 : ∀ k, okT k → k < z) (a4 : ∀ k, okQ k → k < z) (hB : B ≤ z) : Own3 l n L1 L2 B w' (some ⟨z, 0, none⟩) := by
 refine ⟨z, G0, g0, _, g1, G2, g2, _, g3, fun k => okR k ∧ B ≤ k, fun k => okP k ∧ B ≤ k, fun k => okT k ∧ B ≤ k, fun k => okQ k ∧ B ≤ k, rfl, ⟨Kd.R_mono (Kd.R_bound T.r) (fun k hk => ⟨hk.1, hk.2.1⟩), Kd.S_mono (Kd.S_bound T.s) (fun k hk => ⟨hk.1, hk.2.1⟩), Kd.R_mono (Kd.R_bound T.t) (fun k hk => ⟨hk.1, hk.2.1⟩), Kd.S_mono (Kd.S_bound T.u) (fun k hk => ⟨hk.1, hk.2.1⟩), hz⟩, ⟨fun k a b => d1 k a.1 b.1, fun k a b => d2 k a.1 b.1, fun k a b => d3 k a.1 b.1, fun k a b => d4 k a.1 b.1, fun k a b => d5 k a.1 b.1, fun k a b => d6 k a.1 b.1, fun h => Nat.lt_irrefl _ (a1 z h.1), fun h => Nat.lt_irrefl _ (a2 z h.1), fun h => Nat.lt_irrefl _ (a3 z h.1), fun h => Nat.lt_irrefl _ (a4 z h.1)⟩, fun k h => h.2, fun k h => h.2, fun k h => h.2, fun k h => h.2, hB⟩
def Round3 (l : List Int) (L : List (List Int)) : Prop := ∃ (k0 k1 k5 k6 k7 : Nat) (t T0 T : Int) (m0 : List Int) (M : List (List Int)), laws_szWeb.f k0 l L 1048576 = some t ∧ 0 ≤ t ∧ laws_toWeb.f k1 l L = some (l, L) ∧ laws_eqWeb.f k5 l L l L = some true ∧ laws_markInt64S.f k6 l 1 = some (T0, m0) ∧ laws_markInt64SS.f k7 L T0 = some (T, M) ∧ 0 ≤ T ∧ L.length ≤ 1000000000
def Way3 (l : List Int) (L : List (List Int)) (e : Int) : Prop :=
 (∃ ks, spec_l06Is.f ks l L = some false ∧ impl_IsWeb.f l L = some false) ∨
 (∃ (ks kf : Nat) (fv : Nat → Int), spec_l06Is.f ks l L = some true ∧ impl_IsWeb.f l L = some true ∧ Web.isWebC l L = true ∧ wfW l L = true ∧ (Lit.int .i64 e).wf = true ∧ l.length + L.length ≤ 8 ∧ (∀ n, n < L.length → spec_l06Find.f kf (L.getD n []) e = some (fv n)) ∧ (atTo fv L.length).length ≠ 2 ∧ (Web.ends (Web.inc l L) e = [] ∨ (∃ x y, Web.ends (Web.inc l L) e = [x, y] ∧ x < l.length) ∨ ∃ x, Web.ends (Web.inc l L) e = [x, x] ∧ l.length ≤ x)) ∨
 (∃ (ks kf kc ki : Nat) (fv : Nat → Int) (i j pi pj : Nat) (a b c d : Int), spec_l06Is.f ks l L = some true ∧ impl_IsWeb.f l L = some true ∧ Web.isWebC l L = true ∧ wfW l L = true ∧ (Lit.int .i64 e).wf = true ∧ l.length + L.length ≤ 8 ∧ (∀ n, n < L.length → spec_l06Find.f kf (L.getD n []) e = some (fv n)) ∧ atTo fv L.length = [i, j] ∧ i < L.length ∧ j < L.length ∧ i ≠ j ∧ (L.getD i []).length = 3 ∧ (L.getD j []).length = 3 ∧ fv i = (pi : Int) ∧ fv j = (pj : Int) ∧ pi < 3 ∧ pj < 3 ∧
  (L.getD i []).getD ((pi + 1) % 3) 0 = a ∧ (L.getD i []).getD ((pi + 2) % 3) 0 = b ∧ (L.getD j []).getD ((pj + 1) % 3) 0 = c ∧ (L.getD j []).getD ((pj + 2) % 3) 0 = d ∧ spec_l06Copy.f kc l L = some (l, L) ∧ impl_cloneWeb.f ki l L = some (l, L) ∧ Web.ends (Web.inc l L) e = [l.length + i, l.length + j] ∧ impl_around.f ki (L.getD i []) e = some (a, b) ∧ impl_around.f ki (L.getD j []) e = some (c, d) ∧
  ∃ (k1 k2 k3 k4 k8 ka : Nat) (U1 U2 U3 U4 : Int) (r1 r2 : List Int) (M1 M2 : List (List Int)), laws_markInt64S.f k1 l 1 = some (U1, r1) ∧ laws_markInt64SS.f k2 ((L.set i [e, d, a]).set j [e, b, c]) U1 = some (U2, M1) ∧ laws_markInt64S.f k3 l U2 = some (U3, r2) ∧ laws_markInt64SS.f k4 ((L.set i [e, d, b]).set j [e, c, a]) U3 = some (U4, M2) ∧ 0 ≤ U4 ∧ laws_heldWebS.f ka [⟨r1, M1⟩, ⟨r2, M2⟩] 1 = some U4 ∧ laws_eqWebS.f k8 [⟨l, (L.set i [e, d, a]).set j [e, b, c]⟩, ⟨l, (L.set i [e, d, b]).set j [e, c, a]⟩] [⟨l, (L.set i [e, d, a]).set j [e, b, c]⟩, ⟨l, (L.set i [e, d, b]).set j [e, c, a]⟩] = some true)
def laws_FnExactThreeWebs.Good (l : List Int) (L : List (List Int)) (e : Int) : Prop := (∃ k t, laws_szWeb.f k l L 1048576 = some t ∧ t < 0) ∨ (Round3 l L ∧ Way3 l L e)
theorem laws_FnExactThreeWebs.calls (A0 : Option Addr) (c0 : Nat) (l : List Int) (A1 : Option Addr) (c1 : Nat) (L : List (List Int)) (e : Int) (r : Bool) (w : World)
  (hr0 : Kd.C (Kd.int .i64) w A0 l.length l) (hc0 : l.length ≤ c0) (hr1 : Kd.C (Kd.slice 2 (Kd.int .i64)) w A1 L.length L) (hc1 : L.length ≤ c1) (h : laws_FnExactThreeWebs.Good l L e ∧ r = true) :
  Calls Try.prog 3 #[.agg #[.slice A0 l.length c0, .slice A1 L.length c1], .int .i64 e] w fun x w' => x = .returned (.bool r) ∧ Below w.heap.size w w' := by
 obtain ⟨h, rfl⟩ := h
 rcases h with ⟨k, t, e0, ht⟩ | ⟨⟨k0, k1, k5, k6, k7, t, T0, T, m0, M, e0, ht, e1, e5, e6, e7, hT, hL⟩, h⟩
 ·exact three_big k A0 c0 l A1 c1 L e t w hr0 hc0 hr1 hc1 e0 ht
 ·have q1 : laws_eqWebS.f 1 [] [] = some true := by kernel_rfl
  have q2 : laws_heldWebS.f 1 [] 1 = some 1 := by kernel_rfl
  rcases h with ⟨ks, s1, s2⟩ | ⟨ks, kf, fv, s1, s2, s3, s4, s5, s6, s7, s8, s9⟩ | ⟨ks, kf, kc, ki, fv, i, j, pi, pj, a, b, c, d, s1, s2, s3, s4, s5, s6, s7, s8, u1, u2, u3, u4, u5, u6, u7, u8, u9, v1, v2, v3, v4, v5, v6, v7, v8, v9, n1, n2, n3, n4, n8, na, U1, U2, U3, U4, r1, r2, M1, M2, x1, x2, x3, x4, x5, x6, x7⟩
  ·refine three_returns k0 k1 1 k5 k6 k7 1 A0 c0 l A1 c1 L e t 1 [] [] T0 T 1 m0 M _ _ w hr0 hc0 hr1 hc1 e0 ht e1 (fun X0 x0 X1 x1 v g0 g1 g2 g3 => ?_) (fun X0 x0 X1 x1 v g0 g1 g2 g3 => ?_) handed_nil q1 e5 e6 e7 hT (by decide) q2 hL
   ·refine (specThree_two ks X0 x0 l X1 x1 L e v g0 g1 g2 g3 s1).mono ?_
    rintro x v' ⟨rfl, hb⟩
    exact ⟨none, rfl, ⟨rfl, Nat.zero_le _, fun hp => absurd hp (Nat.lt_irrefl _)⟩, hb⟩
   ·refine (three_two X0 x0 l X1 x1 L e v g0 g1 g2 g3 s2).mono ?_
    rintro x v' ⟨rfl, hb⟩
    exact ⟨none, rfl, rfl, hb⟩
  ·refine three_returns k0 k1 1 k5 k6 k7 1 A0 c0 l A1 c1 L e t 5 [] [] T0 T 1 m0 M _ _ w hr0 hc0 hr1 hc1 e0 ht e1 (fun X0 x0 X1 x1 v g0 g1 g2 g3 => ?_) (fun X0 x0 X1 x1 v g0 g1 g2 g3 => ?_) handed_nil q1 e5 e6 e7 hT (by decide) q2 hL
   ·refine (specThree_three ks kf X0 x0 l X1 x1 L e fv v g0 g1 g2 g3 s1 s7 s8 s6).mono ?_
    rintro x v' ⟨rfl, hb⟩
    exact ⟨none, rfl, ⟨rfl, Nat.zero_le _, fun hp => absurd hp (Nat.lt_irrefl _)⟩, hb⟩
   ·rcases s9 with s9 | ⟨y1, y2, s9, s10⟩ | ⟨y1, s9, s10⟩
    ·refine (three_nil X0 x0 l X1 x1 L e v g0 g1 g2 g3 s2 s3 s4 s5 s9).mono ?_
     rintro x v' ⟨rfl, hb⟩
     exact ⟨none, rfl, rfl, hb⟩
    ·refine (three_leg X0 x0 l X1 x1 L e y1 y2 v g0 g1 g2 g3 s2 s3 s4 s5 s9 s10).mono ?_
     rintro x v' ⟨rfl, hb⟩
     exact ⟨none, rfl, rfl, hb⟩
    ·refine (three_same X0 x0 l X1 x1 L e y1 v g0 g1 g2 g3 s2 s3 s4 s5 s9 s10).mono ?_
     rintro x v' ⟨rfl, hb⟩
     exact ⟨none, rfl, rfl, hb⟩
  ·refine three_returns k0 k1 n8 k5 k6 k7 na A0 c0 l A1 c1 L e t 0 [⟨l, (L.set i [e, d, a]).set j [e, b, c]⟩, ⟨l, (L.set i [e, d, b]).set j [e, c, a]⟩] [⟨r1, M1⟩, ⟨r2, M2⟩] T0 T U4 m0 M _ _ w hr0 hc0 hr1 hc1 e0 ht e1 (fun X0 x0 X1 x1 v g0 g1 g2 g3 => ?_) (fun X0 x0 X1 x1 v g0 g1 g2 g3 => ?_) (handed_two (n := L.length) (by simp; omega) (by simp; omega) x1 x2 x3 x4) x7 e5 e6 e7 hT x5 x6 hL
   ·refine (specThree_one ks kf kc X0 x0 l X1 x1 L e fv i j pi pj a b c d v g0 g1 g2 g3 s1 s7 s8 s6 u1 u2 u3 u4 u5 u6 u7 u8 u9 v1 v2 v3 v4 v5).mono ?_
    rintro x v' ⟨A, rfl, hC, hb⟩
    exact ⟨A, rfl, hC, hb⟩
   ·refine (three_one ki X0 x0 l X1 x1 L e i j a b c d v g0 g1 g2 g3 s2 v6 s3 s4 s5 v7 u1 u2 u3 v8 v9).mono ?_
    rintro x v' ⟨z, G0, g0', gp, g1', G2, g2', gq, g3', p, q, okR, okP, okT, okQ, rfl, hz, T, d1, d2, d3, d4, d5, d6, a1, a2, a3, a4, hB, hb⟩
    exact ⟨_, rfl, own3_of (w := v) hz T d1 d2 d3 d4 d5 d6 a1 a2 a3 a4 hB, hb⟩
end Go.Proofs.Ytmeggliapebkgaa.F
end
section
namespace Go.Proofs.Ytmeggliapebkgaa.F
open Go.RowKit Go.Proofs.YtmeggliapebkgaaW.PrintWords Go.Proofs.YtmeggliapebkgaaW.PrintLast Go.Proofs.YtmeggliapebkgaaW.PrintMore
attribute [local go_sem] max2_int min2_int max_two min_two max_three min_three max_four min_four   
set_option linter.unusedVariables false
set_option linter.unusedSimpArgs false
end Go.Proofs.Ytmeggliapebkgaa.F
end
section
namespace Go.Proofs.Ytmeggliapebkgaa.Pure
open Go.RowKit Go.Proofs.Ytmeggliapebkgaa.F Go.Proofs.YtmeggliapebkgaaW.PrintWords Go.Proofs.YtmeggliapebkgaaW.PrintLast
theorem idxOf_mid {x : Int} {u v : List Int} (hu : x ∉ u) : (u ++ x :: v).idxOf x = u.length := by
  rw [List.idxOf_append, if_neg hu, List.idxOf_cons_self]; omega
end Go.Proofs.Ytmeggliapebkgaa.Pure
end
section
namespace Go.Proofs.Ytmeggliapebkgaa.Pure
open Go.RowKit Go.Proofs.Ytmeggliapebkgaa.F Go.Proofs.YtmeggliapebkgaaW.PrintWords Go.Proofs.YtmeggliapebkgaaW.PrintLast
theorem Ev_succ {α : Type} {g : Nat → Option α} {r : α} (h : Ev (fun k => g (k + 1)) r) : Ev g r := Ev.step (fun _ => rfl) h
def marks (s n : Nat) : List Int := (List.range' s n).map fun i : Nat => (i : Int)
theorem marks_len (s n : Nat) : (marks s n).length = n := by simp [marks]
theorem marks_snoc (s n : Nat) : marks s (n + 1) = marks s n ++ [((s + n : Nat) : Int)] := by
  unfold marks
  rw [List.range'_concat, List.map_append]; simp
theorem mark_l0 (s : Nat) (hs : s ≤ 1152921504606846976) : ∀ (t : List Int) (n : Nat), n + t.length ≤ 1152921504606846976 → Ev (fun k => laws_markInt64S.l0 k (marks s n ++ t) ((s + n : Nat) : Int) (n : Int)) (((s + (n + t.length) : Nat) : Int), marks s (n + t.length)) := by
  intro t
  induction t with
  | nil =>
    intro n hn
    refine Ev.step (f := fun _ => some _) (fun k => ?_) (Ev.now _)
    have hl := marks_len s n
    simp only [laws_markInt64S.l0]
    rw [if_neg (by rw [List.append_nil, hl]; omega)]; simp
  | cons x t ih =>
    intro n hn
    have hl := marks_len s n
    rw [List.length_cons] at hn ⊢
    have h := ih (n + 1) (by omega)
    rw [show n + (t.length + 1) = n + 1 + t.length from by omega]
    refine Ev.step (fun k => ?_) h
    simp only [laws_markInt64S.l0]
    rw [if_pos (by simp [hl]; omega), if_pos (by omega), Int.toNat_natCast, wS (by omega), wS (by omega)]
    rw [List.set_append_right _ _ (by omega), hl, Nat.sub_self, List.set_cons_zero, marks_snoc, List.append_assoc, List.singleton_append]; rfl
theorem held_l0 (s N : Nat) (hb : s + N ≤ 2305843009213693952) : ∀ d n, n + d = N → Ev (fun k => laws_heldInt64S.l0 k (marks s N) ((s + n : Nat) : Int) (n : Int)) ((s + N : Nat) : Int) := by
  intro d
  induction d with
  | zero =>
    intro n hn
    refine Ev.step (f := fun _ => some _) (fun k => ?_) (Ev.now _)
    have hl := marks_len s N
    simp only [laws_heldInt64S.l0]
    rw [if_neg (by rw [hl]; omega)]
    rw [show n = N from by omega]
  | succ d ih =>
    intro n hn
    have hl := marks_len s N
    have hg : (marks s N).getD n 0 = ((s + n : Nat) : Int) := by
      rw [List.getD_eq_getElem?_getD, List.getElem?_eq_getElem (by omega)]
      simp [marks]
    refine Ev.step (fun k => ?_) (ih (n + 1) (by omega))
    simp only [laws_heldInt64S.l0]
    rw [if_pos (by rw [hl]; omega), if_pos (by omega), rdN, if_pos hg, wS (by omega), wS (by omega)]; rfl
theorem own_f (l : List Int) (hb : l.length < 17592186044416) : spec_l01Own.f l = some l := by
  unfold spec_l01Own.f
  rw [Option.bind_some, if_pos (by simpa using hb)]; rfl
theorem index_l0 (l : List Int) (x : Int) (hb : l.length < 4611686018427387904) : ∀ d n, n + d = l.length → x ∈ l.drop n → Ev (fun k => slices_Index_int64_int64.l0 k l x (l.length : Int) (n : Int)) ((n + (l.drop n).idxOf x : Nat) : Int) := by
  intro d
  induction d with
  | zero => intro n hn hx; rw [List.drop_of_length_le (by omega)] at hx; exact absurd hx (by simp)
  | succ d ih =>
    intro n hn hx
    rw [drop_cons (by omega)] at hx ⊢
    by_cases e : x = l.getD n 0
    · refine Ev.step (f := fun _ => some (n : Int)) (fun k => ?_) ?_
      · simp only [slices_Index_int64_int64.l0]; rw [if_pos (by omega), if_pos (by omega), if_pos (by omega), rdN, if_pos e]
      · rw [← e, List.idxOf_cons_self]; exact Ev.now _
    · have hx' : x ∈ l.drop (n + 1) := (List.mem_cons.1 hx).resolve_left e
      rw [List.idxOf_cons, show (l.getD n 0 == x) = false from beq_eq_false_iff_ne.2 (Ne.symm e), cond_false, show n + ((l.drop (n + 1)).idxOf x + 1) = n + 1 + (l.drop (n + 1)).idxOf x from by omega]
      refine Ev.step (fun k => ?_) (ih (n + 1) (by omega) hx')
      simp only [slices_Index_int64_int64.l0]; rw [if_pos (by omega), if_pos (by omega), if_pos (by omega), rdN, if_neg e, wS (by omega)]
theorem index_ev (l : List Int) (x : Int) (hb : l.length < 4611686018427387904) (hx : x ∈ l) : Ev (fun k => slices_Index_int64_int64.f k l x) (l.idxOf x : Int) := by
  have h := index_l0 l x hb l.length 0 (by omega) hx
  rw [Nat.zero_add] at h
  exact h
end Go.Proofs.Ytmeggliapebkgaa.Pure
end
section
namespace Go.Proofs.Ytmeggliapebkgaa.Pure
open Go.RowKit Go.Proofs.Ytmeggliapebkgaa.F Go.Proofs.YtmeggliapebkgaaW.PrintWords Go.Proofs.YtmeggliapebkgaaW.PrintLast
set_option linter.unusedVariables false
set_option linter.unusedSimpArgs false
theorem lrdRow (rows : List (List Int)) (a : Nat) : rd_L1 rows (a : Int) = rows.getD a [] := by unfold rd_L1; rw [Int.toNat_natCast]
structure Small (L : List (List Int)) : Prop where
  len : L.length ≤ 1048576
  row : ∀ l ∈ L, l.length ≤ 1048576
theorem Small.at {L : List (List Int)} (h : Small L) (j : Nat) : (L.getD j []).length ≤ 1048576 := by
  rw [List.getD_eq_getElem?_getD]
  cases e : L[j]? with
  | none => simp
  | some l => exact h.row l (List.mem_of_getElem? e)
theorem toSS_ev {L : List (List Int)} (h : Small L) : Ev (fun k => laws_toInt64SS.f k L) L := by
  have hl := h.len
  have key : ∀ d n, n + d = L.length → Ev (fun k => laws_toInt64SS.l0 k L (L.take n ++ List.replicate d []) (n : Int)) L := by
    intro d
    induction d with
    | zero =>
      intro n hn
      rw [List.take_of_length_le (by omega), List.replicate_zero, List.append_nil]
      refine Ev_succ ?_
      simp only [laws_toInt64SS.l0]
      exact Ev.congr (fun k => if_neg (by omega)) (Ev.now _)
    | succ d ih =>
      intro n hn
      have htl : (L.take n).length = n := by rw [List.length_take]; omega
      refine Ev_succ ?_
      simp only [laws_toInt64SS.l0]
      refine Ev.congr (fun k => if_pos (by omega)) (Ev.congr (fun k => if_pos (by omega)) ?_)
      rw [lrdRow]
      refine Ev.bind (toS_ev _ (by have := h.at n; omega)) ?_
      refine Ev.congr (fun k => if_pos (by rw [List.length_append, htl, List.length_replicate]; omega)) ?_
      have := ih (n + 1) (by omega)
      rw [Int.toNat_natCast, wS (n := n) (by omega), List.set_append_right _ _ (by omega), htl, Nat.sub_self, List.replicate_succ, List.set_cons_zero]
      have ht : L.take (n + 1) = L.take n ++ [L.getD n []] := by
        rw [List.take_succ_eq_append_getElem (by omega), List.getD_eq_getElem?_getD, List.getElem?_eq_getElem (by omega)]; rfl
      rw [ht, List.append_assoc] at this
      exact this
  have := key L.length 0 (by omega)
  rw [List.take_zero, List.nil_append] at this
  unfold laws_toInt64SS.f
  refine Ev.congr (fun k => if_pos (by omega)) (Ev.congr (fun k => if_pos (by omega)) ?_)
  rw [Int.toNat_natCast]
  exact this
theorem eqSS_ev {a b : List (List Int)} (ha : Small a) : Ev (fun k => laws_eqInt64SS.f k a b) (decide (a = b)) := by
  have hl := ha.len
  unfold laws_eqInt64SS.f
  by_cases e : a.length = b.length
  · refine Ev.congr (fun k => if_pos (by omega)) ?_
    have key : ∀ d n, n + d = a.length → Ev (fun k => laws_eqInt64SS.l0 k a b (n : Int)) (decide (a.drop n = b.drop n)) := by
      intro d
      induction d with
      | zero =>
        intro n hn
        rw [List.drop_of_length_le (by omega), List.drop_of_length_le (by omega)]
        refine Ev_succ ?_
        simp only [laws_eqInt64SS.l0]
        exact Ev.congr (fun k => if_neg (by omega)) (Ev.now _)
      | succ d ih =>
        intro n hn
        have h1 : a.drop n = a.getD n [] :: a.drop (n + 1) := by rw [List.drop_eq_getElem_cons (by omega), List.getD_eq_getElem?_getD, List.getElem?_eq_getElem (by omega)]; rfl
        have h2 : b.drop n = b.getD n [] :: b.drop (n + 1) := by rw [List.drop_eq_getElem_cons (by omega), List.getD_eq_getElem?_getD, List.getElem?_eq_getElem (by omega)]; rfl
        refine Ev_succ ?_
        simp only [laws_eqInt64SS.l0]
        refine Ev.congr (fun k => if_pos (by omega)) (Ev.congr (fun k => if_pos (by omega)) (Ev.congr (fun k => if_pos (by omega)) ?_))
        rw [lrdRow, lrdRow]
        refine Ev.bind (eqS_ev _ _ (by have := ha.at n; omega)) ?_
        by_cases g : a.getD n [] = b.getD n []
        · refine Ev.congr (fun k => if_pos (decide_eq_true g)) ?_
          rw [wS (n := n) (by omega)]
          have := ih (n + 1) (by omega)
          have e2 : decide (a.drop n = b.drop n) = decide (a.drop (n + 1) = b.drop (n + 1)) := by
            rw [decide_eq_decide, h1, h2, g]
            exact ⟨fun h => (List.cons.inj h).2, fun h => by rw [h]⟩
          rw [e2]; exact this
        · refine Ev.congr (fun k => if_neg (by simpa using g)) ?_
          rw [decide_eq_false (fun h => g (by rw [h1, h2] at h; exact (List.cons.inj h).1))]
          exact Ev.now _
    have := key a.length 0 (by omega)
    rw [List.drop_zero, List.drop_zero] at this
    exact this
  · refine Ev.congr (fun k => if_neg (by omega)) ?_
    rw [decide_eq_false (fun h => e (by rw [h]))]
    exact Ev.now _
theorem szS_f (l : List Int) (x : Int) (hl : l.length ≤ maxLen) (h0 : 0 ≤ x) (h1 : x ≤ 1048576) : laws_szInt64S.f l x = some (if (l.length : Int) ≤ x then x - l.length else -1) := by
  unfold maxLen at hl
  unfold laws_szInt64S.f
  rw [show wrap64 (x - (l.length : Int)) = x - l.length from by unfold wrap64; omega]
  by_cases h : (l.length : Int) ≤ x
  · rw [if_neg (by omega), if_pos h]
  · rw [if_pos (by omega), if_neg h]
theorem szSS_ev (L : List (List Int)) (x : Int) (hl : L.length ≤ maxLen) (hr : ∀ l ∈ L, l.length ≤ maxLen) (h0 : 0 ≤ x) (h1 : x ≤ 1048576) : ∃ t, Ev (fun k => laws_szInt64SS.f k L x) t ∧ (0 ≤ t → Small L) ∧ t ≤ 1048576 := by
  unfold maxLen at hl
  unfold laws_szInt64SS.f
  rw [show wrap64 (x - (L.length : Int)) = x - L.length from by unfold wrap64; omega]
  by_cases h : (L.length : Int) ≤ x
  · have key : ∀ d n y, n + d = L.length → 0 ≤ y → y ≤ 1048576 → ∃ t, Ev (fun k => laws_szInt64SS.l0 k L y (n : Int)) t ∧ (0 ≤ t → ∀ l ∈ L.drop n, l.length ≤ 1048576) ∧ t ≤ 1048576 := by
      intro d
      induction d with
      | zero =>
        intro n y hn hy hy1
        refine ⟨y, ?_, fun _ => by rw [List.drop_of_length_le (by omega)]; simp, hy1⟩
        refine Ev_succ ?_
        simp only [laws_szInt64SS.l0]
        exact Ev.congr (fun k => if_neg (by omega)) (Ev.now _)
      | succ d ih =>
        intro n y hn hy hy1
        have hd : L.drop n = L.getD n [] :: L.drop (n + 1) := by rw [List.drop_eq_getElem_cons (by omega), List.getD_eq_getElem?_getD, List.getElem?_eq_getElem (by omega)]; rfl
        have hm : (L.getD n []).length ≤ maxLen := hr _ (by rw [List.getD_eq_getElem?_getD, List.getElem?_eq_getElem (by omega)]; exact List.getElem_mem _)
        have hs := szS_f (L.getD n []) y hm hy hy1
        by_cases g : ((L.getD n []).length : Int) ≤ y
        · obtain ⟨t, ht, hq, ht1⟩ := ih (n + 1) (y - (L.getD n []).length) (by omega) (by omega) (by omega)
          refine ⟨t, ?_, fun h0 l hl' => ?_, ht1⟩
          · refine Ev_succ ?_
            simp only [laws_szInt64SS.l0]
            refine Ev.congr (fun k => if_pos (by omega)) (Ev.congr (fun k => if_pos (by omega)) ?_)
            rw [lrdRow, hs, if_pos g]
            simp only [Option.bind_some]
            rw [wS (n := n) (by omega)]
            exact Ev.congr (fun k => if_neg (by omega)) ht
          · rw [hd] at hl'
            rcases List.mem_cons.1 hl' with q | q
            · rw [q]; omega
            · exact hq h0 l q
        · refine ⟨-1, ?_, fun h0 => absurd h0 (by omega), by omega⟩
          refine Ev_succ ?_
          simp only [laws_szInt64SS.l0]
          refine Ev.congr (fun k => if_pos (by omega)) (Ev.congr (fun k => if_pos (by omega)) ?_)
          rw [lrdRow, hs, if_neg g]
          simp only [Option.bind_some]
          exact Ev.congr (fun k => if_pos (by omega)) (Ev.now _)
    obtain ⟨t, ht, hq, ht1⟩ := key L.length 0 (x - L.length) (by omega) (by omega) (by omega)
    exact ⟨t, Ev.congr (fun k => if_neg (by omega)) ht, fun h0 => ⟨by omega, fun l hl' => hq h0 l (by rw [List.drop_zero]; exact hl')⟩, ht1⟩
  · exact ⟨-1, Ev.congr (fun k => if_pos (by omega)) (Ev.now _), fun h0 => absurd h0 (by omega), by omega⟩
theorem szWeb_ev (l : List Int) (L : List (List Int)) (hl : l.length ≤ maxLen) (hL : L.length ≤ maxLen) (hr : ∀ l ∈ L, l.length ≤ maxLen) : ∃ t, Ev (fun k => laws_szWeb.f k l L 1048576) t ∧ (0 ≤ t → l.length ≤ 1048576 ∧ Small L) := by
  unfold laws_szWeb.f
  rw [szS_f l 1048576 hl (by omega) (by omega)]
  simp only [Option.bind_some]
  by_cases h : (l.length : Int) ≤ 1048576
  · rw [if_pos h]
    obtain ⟨t, ht, hq, _⟩ := szSS_ev L (1048576 - l.length) hL hr (by omega) (by omega)
    by_cases g : t < 0
    · refine ⟨-1, ?_, fun h0 => absurd h0 (by omega)⟩
      refine Ev.congr (fun k => if_neg (by omega)) (Ev.bind ht ?_)
      exact Ev.congr (fun k => if_pos g) (Ev.now _)
    · refine ⟨t, ?_, fun h0 => ⟨by omega, hq h0⟩⟩
      refine Ev.congr (fun k => if_neg (by omega)) (Ev.bind ht ?_)
      exact Ev.congr (fun k => if_neg g) (Ev.now _)
  · rw [if_neg h]
    exact ⟨-1, Ev.congr (fun k => if_pos (by omega)) (Ev.now _), fun h0 => absurd h0 (by omega)⟩
theorem toWeb_ev {l : List Int} {L : List (List Int)} (hl : l.length ≤ 1048576) (hL : Small L) : Ev (fun k => laws_toWeb.f k l L) (l, L) := by
  unfold laws_toWeb.f
  exact Ev.bind (toS_ev l (by omega)) (Ev.bind (toSS_ev hL) (Ev.now _))
theorem eqWeb_ev {l m : List Int} {L M : List (List Int)} (hl : l.length ≤ 1048576) (hL : Small L) : Ev (fun k => laws_eqWeb.f k l L m M) (decide (l = m ∧ L = M)) := by
  unfold laws_eqWeb.f
  refine Ev.bind (eqS_ev l m (by omega)) ?_
  by_cases h : l = m
  · refine Ev.congr (fun k => if_pos (decide_eq_true h)) (Ev.bind (eqSS_ev hL) ?_)
    by_cases g : L = M
    · rw [decide_eq_true (show l = m ∧ L = M from ⟨h, g⟩)]
      exact Ev.congr (fun k => if_pos (decide_eq_true g)) (Ev.now _)
    · rw [decide_eq_false (show ¬ (l = m ∧ L = M) from fun q => g q.2)]
      exact Ev.congr (fun k => if_neg (by simpa using g)) (Ev.now _)
  · rw [decide_eq_false (show ¬ (l = m ∧ L = M) from fun q => h q.1)]
    exact Ev.congr (fun k => if_neg (by simpa using h)) (Ev.now _)
theorem eqWeb_same {l : List Int} {L : List (List Int)} (hl : l.length ≤ 1048576) (hL : Small L) : Ev (fun k => laws_eqWeb.f k l L l L) true := by
  have := eqWeb_ev (m := l) (M := L) hl hL
  rwa [decide_eq_true (show l = l ∧ L = L from ⟨rfl, rfl⟩)] at this
end Go.Proofs.Ytmeggliapebkgaa.Pure
end
section
namespace Go.Proofs.Ytmeggliapebkgaa.Pure
open Go.RowKit Go.Proofs.Ytmeggliapebkgaa.F Go.Proofs.Ytmeggliapebkgaa.Mem Go.Proofs.Ytmeggliapebkgaa.Web Go.Proofs.YtmeggliapebkgaaW.PrintWords Go.Proofs.YtmeggliapebkgaaW.PrintLast
set_option linter.unusedVariables false
set_option linter.unusedSimpArgs false
theorem wrdRow (rows : List (List Int)) (a : Nat) : rd_L1 rows (a : Int) = rows.getD a [] := by unfold rd_L1; rw [Int.toNat_natCast]
def edgesW (legs : List Int) (forks : List (List Int)) (i : Nat) : List Int := if i < legs.length then [legs.getD i 0] else forks.getD (i - legs.length) []
theorem edges_f (legs : List Int) (forks : List (List Int)) (i : Nat) (hi : i < legs.length + forks.length) (hb : legs.length + forks.length ≤ 8) : spec_l06Edges.f legs forks (i : Int) = some (edgesW legs forks i) := by
  unfold spec_l06Edges.f edgesW
  by_cases h : i < legs.length
  · rw [if_pos (by omega), if_pos (by omega), if_pos h, rdN]
  · have e : wrap64 ((i : Int) - (legs.length : Int)) = ((i - legs.length : Nat) : Int) := by unfold wrap64; omega
    rw [if_neg (by omega), if_neg h, e, if_pos (by omega), if_pos (by omega), wrdRow]
theorem mem_edges {legs : List Int} {forks : List (List Int)} {e : Int} {u : Nat} (hu : u < legs.length + forks.length) : e ∈ edgesW legs forks u ↔ (e, u) ∈ inc legs forks := by
  rw [mem_inc]
  unfold edgesW
  by_cases h : u < legs.length
  · rw [if_pos h, List.mem_singleton, List.getD_eq_getElem?_getD, List.getElem?_eq_getElem h]
    constructor
    · intro g; left; rw [g]; rfl
    · rintro (g | g)
      · exact (Option.some.inj g).symm
      · omega
  · rw [if_neg h, List.getD_eq_getElem?_getD, List.getElem?_eq_getElem (by omega)]
    constructor
    · intro g; exact .inr ⟨by omega, _, rfl, g⟩
    · rintro (g | ⟨_, f, hf, g⟩)
      · have := (List.getElem?_eq_some_iff.1 g).1; omega
      · rw [← Option.some.inj hf] at g; exact g
def joinB (a b : List Int) : Bool := a.any fun x => b.contains x
theorem joined_l1 (a b : List Int) (ha : a.length < 4611686018427387904) (hb : b.length < 4611686018427387904) (i : Nat) (hi : i < a.length) (res : Bool) (hr : Ev (fun k => spec_l06Joined.l0 k a b ((i + 1 : Nat) : Int)) res) :
    ∀ d j, j + d = b.length → Ev (fun k => spec_l06Joined.l1 k a b (i : Int) (j : Int)) (if (b.drop j).contains (a.getD i 0) = true then true else res) := by
  intro d
  induction d with
  | zero =>
    intro j hj
    rw [List.drop_of_length_le (by omega)]
    refine Ev_succ ?_
    simp only [spec_l06Joined.l1]
    rw [wS (n := i) (by omega)]
    exact Ev.congr (fun k => if_neg (by omega)) (by simpa using hr)
  | succ d ih =>
    intro j hj
    rw [List.drop_eq_getElem_cons (by omega)]
    have hg : b[j]'(by omega) = b.getD j 0 := by rw [List.getD_eq_getElem?_getD, List.getElem?_eq_getElem (by omega)]; rfl
    rw [hg]
    refine Ev_succ ?_
    simp only [spec_l06Joined.l1]
    refine Ev.congr (fun k => if_pos (by omega)) (Ev.congr (fun k => if_pos (by omega)) (Ev.congr (fun k => if_pos (by omega)) (Ev.congr (fun k => if_pos (by omega)) ?_)))
    rw [rdN, rdN]
    by_cases e : a.getD i 0 = b.getD j 0
    · refine Ev.congr (fun k => if_pos e) ?_
      rw [if_pos (by rw [List.contains_cons, e]; simp)]
      exact Ev.now _
    · refine Ev.congr (fun k => if_neg e) ?_
      rw [wS (n := j) (by omega), List.contains_cons, show (a.getD i 0 == b.getD j 0) = false from by simpa using e, Bool.false_or]
      exact ih (j + 1) (by omega)
theorem joined_l0 (a b : List Int) (ha : a.length < 4611686018427387904) (hb : b.length < 4611686018427387904) : ∀ d i, i + d = a.length → Ev (fun k => spec_l06Joined.l0 k a b (i : Int)) (joinB (a.drop i) b) := by
  intro d
  induction d with
  | zero =>
    intro i hi
    rw [List.drop_of_length_le (by omega)]
    refine Ev_succ ?_
    simp only [spec_l06Joined.l0]
    exact Ev.congr (fun k => if_neg (by omega)) (Ev.now _)
  | succ d ih =>
    intro i hi
    have h := joined_l1 a b ha hb i (by omega) _ (ih (i + 1) (by omega)) b.length 0 (by omega)
    rw [List.drop_eq_getElem_cons (by omega)]
    have hg : a[i]'(by omega) = a.getD i 0 := by rw [List.getD_eq_getElem?_getD, List.getElem?_eq_getElem (by omega)]; rfl
    rw [hg]
    refine Ev_succ ?_
    simp only [spec_l06Joined.l0]
    refine Ev.congr (fun k => if_pos (by omega)) ?_
    rw [List.drop_zero] at h
    have e : joinB (a.getD i 0 :: a.drop (i + 1)) b = if b.contains (a.getD i 0) = true then true else joinB (a.drop (i + 1)) b := by
      unfold joinB; rw [List.any_cons]
      cases b.contains (a.getD i 0) <;> simp
    rw [e]; exact h
theorem joined_ev (a b : List Int) (ha : a.length < 4611686018427387904) (hb : b.length < 4611686018427387904) : Ev (fun k => spec_l06Joined.f k a b) (joinB a b) := joined_l0 a b ha hb a.length 0 (by omega)
theorem join_J {legs : List Int} {forks : List (List Int)} {u v : Nat} (hu : u < legs.length + forks.length) (hv : v < legs.length + forks.length) : joinB (edgesW legs forks u) (edgesW legs forks v) = true ↔ J (inc legs forks) u v := by
  unfold joinB J
  rw [List.any_eq_true]
  constructor
  · rintro ⟨e, h1, h2⟩
    exact ⟨e, (mem_edges hu).1 h1, (mem_edges hv).1 (List.contains_iff_mem.1 h2)⟩
  · rintro ⟨e, h1, h2⟩
    exact ⟨e, (mem_edges hu).2 h1, List.contains_iff_mem.2 ((mem_edges hv).2 h2)⟩
def sumN (l : List Nat) : Nat := l.foldr (· + ·) 0
theorem sum_set : ∀ (l : List Nat) (i x : Nat), i < l.length → sumN (l.set i x) + at_ l i = sumN l + x
  | [], _, _, h => absurd h (by simp)
  | a :: l, 0, x, _ => by simp [sumN, at_]; omega
  | a :: l, i + 1, x, h => by
    have := sum_set l i x (by simpa using h)
    simp only [List.set_cons_succ, sumN, List.foldr_cons, at_, List.getD_cons_succ] at this ⊢
    omega
theorem sum_relax {out : List Nat} {i k : Nat} (hi : i < out.length) (hk : k < out.length) (hne : i ≠ k) (h : at_ out i ≠ at_ out k) : sumN (relax2 out i k) < sumN out := by
  have h1 := sum_set out i (low2 out i k) hi
  have h2 := sum_set (out.set i (low2 out i k)) k (low2 out i k) (by rw [List.length_set]; exact hk)
  rw [at_set hi, if_neg (Ne.symm hne)] at h2
  unfold relax2
  unfold low2 at h1 h2 ⊢
  omega
structure WPass (I : List (Int × Nat)) (n : Nat) (out0 out : List Nat) (more : Bool) : Prop where
  fits : Fits I n out
  no : more = false → out = out0
  yes : more = true → sumN out < sumN out0
theorem ints_set (l : List Nat) (i x : Nat) : (ints l).set i (x : Int) = ints (l.set i x) := by unfold ints; rw [List.map_set]
theorem rd_ints {l : List Nat} {i : Nat} (h : i < l.length) : rd (ints l) (i : Int) = ((at_ l i : Nat) : Int) := by rw [rdN, ints_getD l i h]; rfl
theorem mn_nat (a b : Nat) : mn (a : Int) (b : Int) = ((min a b : Nat) : Int) := by unfold mn; omega
theorem edges_len {legs : List Int} {forks : List (List Int)} (hf : ∀ f ∈ forks, f.length = 3) (i : Nat) : (edgesW legs forks i).length ≤ 3 := by
  unfold edgesW
  split
  · simp
  · rw [List.getD_eq_getElem?_getD]
    cases h : forks[i - legs.length]? with
    | none => simp
    | some f => have := hf f (List.mem_of_getElem? h); simp [this]
section
variable {legs : List Int} {forks : List (List Int)} {n : Nat} (hn : n = legs.length + forks.length) (h8 : n ≤ 8) (hf : ∀ f ∈ forks, f.length = 3)
include hn h8 hf
theorem wparts_l3 (out0 : List Nat) (Q : List Int → Prop) (i : Nat) (hi : i < n) (m0 : Bool)
    (hnext : ∀ out more, WPass (inc legs forks) n out0 out more → (m0 = true → more = true) → (more = false → ∀ k, k < i → J (inc legs forks) i k → at_ out0 i = at_ out0 k) → ∃ res, Ev (fun k => spec_l06Parts.l2 k (ints out) more ((i + 1 : Nat) : Int) legs forks) res ∧ Q res) :
    ∀ e k out more, k + e = i → WPass (inc legs forks) n out0 out more → (m0 = true → more = true) → (more = false → ∀ k', k' < k → J (inc legs forks) i k' → at_ out0 i = at_ out0 k') → ∃ res, Ev (fun q => spec_l06Parts.l3 q (ints out) more (i : Int) (k : Int) legs forks) res ∧ Q res := by
  intro e
  induction e with
  | zero =>
    intro k out more hk hp hs hc
    obtain ⟨res, hr, hq⟩ := hnext out more hp hs (fun hm k' hk' hj => hc hm k' (by omega) hj)
    refine ⟨res, ?_, hq⟩
    refine Ev_succ ?_
    simp only [spec_l06Parts.l3]
    rw [wS (n := i) (by omega)]
    exact Ev.congr (fun k => if_neg (by omega)) hr
  | succ e ih =>
    intro k out more hk hp hs hc
    have hl := hp.fits.len
    have hil : (ints out).length = out.length := ints_len out
    have step : ∀ res, Ev (fun q => if at_ out i = at_ out k then spec_l06Parts.l3 q (ints out) more (i : Int) ((k + 1 : Nat) : Int) legs forks else if joinB (edgesW legs forks i) (edgesW legs forks k) = true then spec_l06Parts.l3 q (ints (relax2 out i k)) true (i : Int) ((k + 1 : Nat) : Int) legs forks else spec_l06Parts.l3 q (ints out) more (i : Int) ((k + 1 : Nat) : Int) legs forks) res → Ev (fun q => spec_l06Parts.l3 q (ints out) more (i : Int) (k : Int) legs forks) res := by
      intro res hr
      refine Ev_succ ?_
      simp only [spec_l06Parts.l3]
      refine Ev.congr (fun q => if_pos (by omega)) (Ev.congr (fun q => if_pos (by omega)) (Ev.congr (fun q => if_pos (by omega)) (Ev.congr (fun q => if_pos (by omega)) (Ev.congr (fun q => if_pos (by omega)) ?_))))
      rw [rd_ints (by omega), rd_ints (by omega), wS (n := k) (by omega), edges_f legs forks i (by omega) (by omega), edges_f legs forks k (by omega) (by omega)]
      by_cases c : at_ out i = at_ out k
      · refine Ev.congr (fun q => if_pos (by omega)) ?_
        exact Ev.congr (fun q => (if_pos c).symm) hr
      · refine Ev.congr (fun q => if_neg (by omega)) ?_
        simp only [Option.bind_some]
        have h1 := edges_len (legs := legs) hf i
        have h2 := edges_len (legs := legs) hf k
        refine Ev.bind (joined_ev _ _ (by omega) (by omega)) ?_
        have hr2 := Ev.congr (fun q => (if_neg c).symm) hr
        rw [mn_nat, Int.toNat_natCast, Int.toNat_natCast, ints_set, ints_set]
        exact hr2
    by_cases c : at_ out i = at_ out k
    · obtain ⟨res, hr, hq⟩ := ih (k + 1) out more (by omega) hp hs (fun hm k' hk' hj => by
        by_cases g : k' = k
        · have := hp.no hm; subst this; subst g; exact c
        · exact hc hm k' (by omega) hj)
      exact ⟨res, step res (Ev.congr (fun q => if_pos c) hr), hq⟩
    · by_cases d : joinB (edgesW legs forks i) (edgesW legs forks k) = true
      · have hj := (join_J (by omega) (by omega)).1 d
        have hlt := sum_relax (out := out) (i := i) (k := k) (by omega) (by omega) (by omega) c
        obtain ⟨res, hr, hq⟩ := ih (k + 1) (relax2 out i k) true (by omega) ⟨hp.fits.relax (by omega) (by omega) hj, fun hm => absurd hm (by simp), fun _ => by
          cases hmo : more with
          | false => rw [← hp.no hmo]; exact hlt
          | true => have := hp.yes hmo; omega⟩ (fun _ => rfl) (fun hm => absurd hm (by simp))
        exact ⟨res, step res (Ev.congr (fun q => (if_neg c).trans (if_pos d)) hr), hq⟩
      · obtain ⟨res, hr, hq⟩ := ih (k + 1) out more (by omega) hp hs (fun hm k' hk' hj => by
          by_cases g : k' = k
          · subst g; exact absurd ((join_J (by omega) (by omega)).2 hj) d
          · exact hc hm k' (by omega) hj)
        exact ⟨res, step res (Ev.congr (fun q => (if_neg c).trans (if_neg d)) hr), hq⟩
theorem wparts_l2 (out0 : List Nat) (Q : List Int → Prop)
    (hnext : ∀ out more, WPass (inc legs forks) n out0 out more → (more = false → ∀ i, i < n → ∀ k, k < i → J (inc legs forks) i k → at_ out0 i = at_ out0 k) → ∃ res, Ev (fun k => spec_l06Parts.l1 k (ints out) more legs forks) res ∧ Q res) :
    ∀ e i out more, i + e = n → WPass (inc legs forks) n out0 out more → (more = false → ∀ i', i' < i → ∀ k, k < i' → J (inc legs forks) i' k → at_ out0 i' = at_ out0 k) → ∃ res, Ev (fun q => spec_l06Parts.l2 q (ints out) more (i : Int) legs forks) res ∧ Q res := by
  intro e
  induction e with
  | zero =>
    intro i out more hi hp hc
    have hl := hp.fits.len
    have hil : (ints out).length = out.length := ints_len out
    obtain ⟨res, hr, hq⟩ := hnext out more hp (fun hm i' hi' => hc hm i' (by omega))
    refine ⟨res, ?_, hq⟩
    refine Ev_succ ?_
    simp only [spec_l06Parts.l2]
    exact Ev.congr (fun k => if_neg (by omega)) hr
  | succ e ih =>
    intro i out more hi hp hc
    have hl := hp.fits.len
    have hil : (ints out).length = out.length := ints_len out
    obtain ⟨res, hr, hq⟩ := wparts_l3 hn h8 hf out0 Q i (by omega) more (fun out' more' hp' hs' hc' => ih (i + 1) out' more' (by omega) hp' (fun hm i' hi' => by
      by_cases g : i' = i
      · subst g; exact hc' hm
      · refine hc ?_ i' (by omega)
        cases hmo : more with
        | false => rfl
        | true => rw [hs' hmo] at hm; exact absurd hm (by simp))) i 0 out more (by omega) hp (fun hm => hm) (fun _ k' hk' => absurd hk' (Nat.not_lt_zero _))
    refine ⟨res, ?_, hq⟩
    refine Ev_succ ?_
    simp only [spec_l06Parts.l2]
    exact Ev.congr (fun k => if_pos (by omega)) hr
theorem wparts_l1 : ∀ m (out : List Nat), sumN out ≤ m → Fits (inc legs forks) n out → Ev (fun k => spec_l06Parts.l1 k (ints out) true legs forks) (ints ((List.range n).map (lbl (inc legs forks)))) := by
  have fin : ∀ out out' more', Fits (inc legs forks) n out → WPass (inc legs forks) n out out' more' → (more' = false → ∀ i, i < n → ∀ k, k < i → J (inc legs forks) i k → at_ out i = at_ out k) → more' = false → ∃ res, Ev (fun k => spec_l06Parts.l1 k (ints out') more' legs forks) res ∧ res = ints ((List.range n).map (lbl (inc legs forks))) := by
    intro out out' more' hF hp' hcl hmo
    have e := hp'.no hmo
    subst e
    refine ⟨ints out', ?_, ?_⟩
    · refine Ev_succ ?_
      simp only [spec_l06Parts.l1]
      exact Ev.congr (fun k => if_neg (by rw [hmo]; simp)) (Ev.now _)
    · rw [← fixed_lbl (fun e u h => by rw [hn]; exact inc_lt h) hF (fun u v hj => ?_)]
      obtain ⟨e, h1, h2⟩ := hj
      have hu : u < n := by rw [hn]; exact inc_lt h1
      have hv : v < n := by rw [hn]; exact inc_lt h2
      rcases Nat.lt_trichotomy u v with g | g | g
      · exact (hcl hmo v hv u g ⟨e, h2, h1⟩).symm
      · rw [g]
      · exact hcl hmo u hu v g ⟨e, h1, h2⟩
  intro m
  induction m with
  | zero =>
    intro out hm hF
    obtain ⟨res, hr, hq⟩ := wparts_l2 hn h8 hf out (fun res => res = ints ((List.range n).map (lbl (inc legs forks)))) (fun out' more' hp' hcl => by
      cases hmo : more' with
      | true => have := hp'.yes hmo; omega
      | false => rw [← hmo]; exact fin out out' more' hF hp' hcl hmo) n 0 out false (by omega) ⟨hF, fun _ => rfl, fun h => absurd h (by simp)⟩ (fun _ i' hi' => absurd hi' (Nat.not_lt_zero _))
    subst hq
    refine Ev_succ ?_
    simp only [spec_l06Parts.l1]
    exact Ev.congr (fun k => if_pos trivial) hr
  | succ m ih =>
    intro out hm hF
    obtain ⟨res, hr, hq⟩ := wparts_l2 hn h8 hf out (fun res => res = ints ((List.range n).map (lbl (inc legs forks)))) (fun out' more' hp' hcl => by
      cases hmo : more' with
      | true => have := hp'.yes hmo; exact ⟨_, ih out' (by omega) hp'.fits, rfl⟩
      | false => rw [← hmo]; exact fin out out' more' hF hp' hcl hmo) n 0 out false (by omega) ⟨hF, fun _ => rfl, fun h => absurd h (by simp)⟩ (fun _ i' hi' => absurd hi' (Nat.not_lt_zero _))
    subst hq
    refine Ev_succ ?_
    simp only [spec_l06Parts.l1]
    exact Ev.congr (fun k => if_pos trivial) hr
theorem wparts_ev : Ev (fun k => spec_l06Parts.f k legs forks) (ints ((List.range n).map (lbl (inc legs forks)))) := by
  have key : ∀ d i, i + d = forks.length + legs.length → Ev (fun k => spec_l06Parts.l0 k (legs.length : Int) (ints (List.range i)) (i : Int) legs forks) (ints ((List.range n).map (lbl (inc legs forks)))) := by
    intro d
    induction d with
    | zero =>
      intro i hi
      obtain rfl : i = n := by omega
      have e : wrap64 ((legs.length : Int) + (forks.length : Int)) = (i : Int) := by unfold wrap64; omega
      refine Ev_succ ?_
      simp only [spec_l06Parts.l0]
      rw [e]
      refine Ev.congr (fun k => if_neg (by omega)) ?_
      exact wparts_l1 hn h8 hf _ _ (Nat.le_refl _) (range_fits _ _)
    | succ d ih =>
      intro i hi
      have e : wrap64 ((legs.length : Int) + (forks.length : Int)) = (n : Int) := by unfold wrap64; omega
      refine Ev_succ ?_
      simp only [spec_l06Parts.l0]
      rw [e]
      refine Ev.congr (fun k => if_pos (by omega)) (Ev.congr (fun k => if_pos (by rw [ints_len, List.length_range]; omega)) ?_)
      have := ih (i + 1) (by omega)
      rw [List.range_succ, ints_app] at this
      rw [wS (n := i) (by omega)]
      exact this
  exact key (forks.length + legs.length) 0 (by omega)
end
theorem inc_fst (legs : List Int) (forks : List (List Int)) : (inc legs forks).map Prod.fst = legs ++ forks.flatten := by
  unfold inc
  rw [List.map_append, List.map_flatMap]
  congr 1
  · simp [List.zipIdx_map_fst]
  · have : ∀ (F : List (List Int)) (s : Nat), (F.zipIdx s).flatMap (fun p => (p.1.map fun e => (e, p.2)).map Prod.fst) = F.flatten := by
      intro F
      induction F with
      | nil => intro s; rfl
      | cons f F ih => intro s; rw [List.zipIdx_cons, List.flatMap_cons, ih]; simp [Function.comp_def]
    exact this forks legs.length
theorem ends_count (legs : List Int) (forks : List (List Int)) (e : Int) : (ends (inc legs forks) e).length = (legs ++ forks.flatten).count e := by
  unfold ends
  rw [List.length_map, ← inc_fst, List.count, List.countP_map, ← List.countP_eq_length_filter]
  rfl
def twiceL (all : List Int) : Bool := all.all fun x => decide (0 ≤ x ∧ x ≤ 1000) && all.count x == 2
theorem twice_all (legs : List Int) (forks : List (List Int)) : twiceB legs forks = twiceL (legs ++ forks.flatten) := by
  unfold twiceB twiceL
  rw [← inc_fst, List.all_map]
  congr 1
  funext p
  simp only [Function.comp, ends_count, inc_fst]
theorem etwice_l2 (all : List Int) (ha : all.length ≤ 1000) (i : Nat) (hi : i < all.length) (res : Bool) (hr : Ev (fun k => spec_l06Twice.l1 k all ((i + 1 : Nat) : Int)) res) :
    ∀ d j c, j + d = all.length → c ≤ j → Ev (fun k => spec_l06Twice.l2 k all (i : Int) (c : Int) (j : Int)) (if c + (all.drop j).count (all.getD i 0) = 2 ∧ 0 ≤ all.getD i 0 ∧ all.getD i 0 ≤ 1000 then res else false) := by
  intro d
  induction d with
  | zero =>
    intro j c hj hc
    rw [List.drop_of_length_le (by omega), List.count_nil, Nat.add_zero]
    refine Ev_succ ?_
    simp only [spec_l06Twice.l2]
    refine Ev.congr (fun k => if_neg (by omega)) ?_
    by_cases h2 : c = 2
    · refine Ev.congr (fun k => if_pos (by omega)) (Ev.congr (fun k => if_pos (by omega)) (Ev.congr (fun k => if_pos (by omega)) ?_))
      rw [rdN, spec_in_f, wS (n := i) (by omega)]
      simp only [Option.bind_some]
      by_cases h3 : 0 ≤ all.getD i 0 ∧ all.getD i 0 ≤ 1000
      · rw [if_pos ⟨h2, h3⟩]
        exact Ev.congr (fun k => if_pos (decide_eq_true h3)) hr
      · rw [if_neg (fun h => h3 h.2)]
        exact Ev.congr (fun k => if_neg (by simpa using h3)) (Ev.now _)
    · rw [if_neg (fun h => h2 h.1)]
      exact Ev.congr (fun k => if_neg (by omega)) (Ev.now _)
  | succ d ih =>
    intro j c hj hc
    rw [List.drop_eq_getElem_cons (by omega), List.count_cons]
    have hg : all[j]'(by omega) = all.getD j 0 := by rw [List.getD_eq_getElem?_getD, List.getElem?_eq_getElem (by omega)]; rfl
    rw [hg]
    refine Ev_succ ?_
    simp only [spec_l06Twice.l2]
    refine Ev.congr (fun k => if_pos (by omega)) (Ev.congr (fun k => if_pos (by omega)) (Ev.congr (fun k => if_pos (by omega)) (Ev.congr (fun k => if_pos (by omega)) ?_)))
    rw [rdN, rdN, wS (n := j) (by omega), wS (n := c) (by omega)]
    by_cases e : all.getD j 0 = all.getD i 0
    · refine Ev.congr (fun k => if_pos e) ?_
      have := ih (j + 1) (c + 1) (by omega) (by omega)
      rw [show (all.getD j 0 == all.getD i 0) = true from by simpa using e, if_pos rfl, show c + (List.count (all.getD i 0) (all.drop (j + 1)) + 1) = c + 1 + List.count (all.getD i 0) (all.drop (j + 1)) from by omega]
      exact this
    · refine Ev.congr (fun k => if_neg e) ?_
      have := ih (j + 1) c (by omega) (by omega)
      rw [show (all.getD j 0 == all.getD i 0) = false from by simpa using e, if_neg (show ¬ (false = true) from by simp), Nat.add_zero]
      exact this
theorem etwice_l1 (all : List Int) (ha : all.length ≤ 1000) : ∀ d i, i + d = all.length → Ev (fun k => spec_l06Twice.l1 k all (i : Int)) ((all.drop i).all fun x => decide (0 ≤ x ∧ x ≤ 1000) && all.count x == 2) := by
  intro d
  induction d with
  | zero =>
    intro i hi
    rw [List.drop_of_length_le (by omega)]
    refine Ev_succ ?_
    simp only [spec_l06Twice.l1]
    exact Ev.congr (fun k => if_neg (by omega)) (Ev.now _)
  | succ d ih =>
    intro i hi
    have h := etwice_l2 all ha i (by omega) _ (ih (i + 1) (by omega)) all.length 0 0 (by omega) (by omega)
    rw [List.drop_zero, Nat.zero_add] at h
    rw [List.drop_eq_getElem_cons (by omega), List.all_cons]
    have hg : all[i]'(by omega) = all.getD i 0 := by rw [List.getD_eq_getElem?_getD, List.getElem?_eq_getElem (by omega)]; rfl
    rw [hg]
    refine Ev_succ ?_
    simp only [spec_l06Twice.l1]
    refine Ev.congr (fun k => if_pos (by omega)) ?_
    have e : ((decide (0 ≤ all.getD i 0 ∧ all.getD i 0 ≤ 1000) && List.count (all.getD i 0) all == 2) && (all.drop (i + 1)).all fun x => decide (0 ≤ x ∧ x ≤ 1000) && List.count x all == 2) = if List.count (all.getD i 0) all = 2 ∧ 0 ≤ all.getD i 0 ∧ all.getD i 0 ≤ 1000 then (all.drop (i + 1)).all (fun x => decide (0 ≤ x ∧ x ≤ 1000) && List.count x all == 2) else false := by
      by_cases h1 : List.count (all.getD i 0) all = 2 <;> by_cases h2 : 0 ≤ all.getD i 0 ∧ all.getD i 0 ≤ 1000
      · rw [if_pos ⟨h1, h2⟩, decide_eq_true h2, h1]; rfl
      · rw [if_neg (fun h => h2 h.2), decide_eq_false h2]; rfl
      · rw [if_neg (fun h => h1 h.1), show (List.count (all.getD i 0) all == 2) = false from by simpa using h1]; simp
      · rw [if_neg (fun h => h1 h.1), decide_eq_false h2]; rfl
    rw [e]; exact h
theorem etwice_ev (legs : List Int) (forks : List (List Int)) (h8 : legs.length + forks.length ≤ 8) : Ev (fun k => spec_l06Twice.f k legs forks) ((forks.all fun f => f.length == 3) && twiceB legs forks) := by
  unfold spec_l06Twice.f
  rw [own_f legs (by omega)]
  simp only [Option.bind_some]
  have key : ∀ d i, i + d = forks.length → (∀ f ∈ forks.take i, f.length = 3) → Ev (fun k => spec_l06Twice.l0 k (legs ++ (forks.take i).flatten) (i : Int) legs forks) (((forks.drop i).all fun f => f.length == 3) && twiceB legs forks) := by
    intro d
    induction d with
    | zero =>
      intro i hi h3
      rw [List.take_of_length_le (by omega)] at h3 ⊢
      rw [List.drop_of_length_le (by omega), List.all_nil, Bool.true_and, twice_all]
      refine Ev_succ ?_
      simp only [spec_l06Twice.l0]
      refine Ev.congr (fun k => if_neg (by omega)) ?_
      have hlen : ∀ F : List (List Int), (∀ f ∈ F, f.length = 3) → F.flatten.length = 3 * F.length := by
        intro F
        induction F with
        | nil => intro _; rfl
        | cons f F ih => intro h; rw [List.flatten_cons, List.length_append, ih (fun g hg => h g (List.mem_cons_of_mem _ hg)), h f List.mem_cons_self, List.length_cons]; omega
      have := hlen forks h3
      exact etwice_l1 (legs ++ forks.flatten) (by rw [List.length_append]; omega) (legs ++ forks.flatten).length 0 (by omega)
    | succ d ih =>
      intro i hi h3
      rw [List.drop_eq_getElem_cons (by omega), List.all_cons]
      have hg : forks[i]'(by omega) = forks.getD i [] := by rw [List.getD_eq_getElem?_getD, List.getElem?_eq_getElem (by omega)]; rfl
      rw [hg]
      refine Ev_succ ?_
      simp only [spec_l06Twice.l0]
      refine Ev.congr (fun k => if_pos (by omega)) (Ev.congr (fun k => if_pos (by omega)) ?_)
      rw [wrdRow, wS (n := i) (by omega)]
      by_cases e : (forks.getD i []).length = 3
      · refine Ev.congr (fun k => if_pos (by omega)) ?_
        have hlen : ∀ F : List (List Int), (∀ f ∈ F, f.length = 3) → F.flatten.length = 3 * F.length := by
          intro F
          induction F with
          | nil => intro _; rfl
          | cons f F ih => intro h; rw [List.flatten_cons, List.length_append, ih (fun g hg => h g (List.mem_cons_of_mem _ hg)), h f List.mem_cons_self, List.length_cons]; omega
        have hl := hlen _ h3
        rw [List.length_take] at hl
        refine Ev.congr (fun k => if_pos (by rw [List.length_append]; omega)) ?_
        have ht : forks.take (i + 1) = forks.take i ++ [forks.getD i []] := by rw [List.take_succ_eq_append_getElem (by omega), hg]
        have := ih (i + 1) (by omega) (fun f hf => by
          rw [ht] at hf
          rcases List.mem_append.1 hf with q | q
          · exact h3 f q
          · rw [List.mem_singleton] at q; rw [q]; exact e)
        rw [ht, List.flatten_append, ← List.append_assoc] at this
        rw [show ((forks.getD i []).length == 3) = true from by rw [e]; rfl, Bool.true_and]
        simpa using this
      · refine Ev.congr (fun k => if_neg (by omega)) ?_
        rw [show ((forks.getD i []).length == 3) = false from by simpa using e]
        exact Ev.now _
  have := key forks.length 0 (by omega) (by simp)
  simpa using this
theorem specIs_ev (legs : List Int) (forks : List (List Int)) (h1 : legs.length ≤ 17592186044416) (h2 : forks.length ≤ 17592186044416) : Ev (fun k => spec_l06Is.f k legs forks) (isWebB legs forks) := by
  unfold spec_l06Is.f isWebB
  have e : wrap64 ((legs.length : Int) + (forks.length : Int)) = ((legs.length + forks.length : Nat) : Int) := by unfold wrap64; omega
  rw [e]
  by_cases h8 : legs.length + forks.length ≤ 8
  · rw [decide_eq_true h8, Bool.true_and]
    refine Ev.congr (fun k => if_neg (by omega)) (Ev.bind (etwice_ev legs forks h8) ?_)
    cases ht : ((forks.all fun f => f.length == 3) && twiceB legs forks) with
    | false =>
      rw [Bool.false_and]
      refine Ev_succ ?_
      simp only [spec_l06Is.j0, Bool.not_false, if_true]
      exact Ev.now _
    | true =>
      rw [Bool.true_and]
      have hf : ∀ f ∈ forks, f.length = 3 := fun f hf => by
        have := List.all_eq_true.1 (Bool.and_eq_true_iff.1 ht).1 f hf
        exact eq_of_beq this
      refine Ev_succ ?_
      simp only [spec_l06Is.j0]
      refine Ev.congr (fun k => if_neg (by simp)) (Ev.bind (wparts_ev rfl h8 hf) ?_)
      obtain ⟨n, hn⟩ : ∃ n, n = legs.length + forks.length := ⟨_, rfl⟩
      unfold rootedB
      rw [← hn]
      have key : ∀ d v, v + d = n → Ev (fun k => spec_l06Is.l0 k (ints ((List.range n).map (lbl (inc legs forks)))) (v : Int) legs forks) (((List.range n).drop v).all fun v => decide (lbl (inc legs forks) v < legs.length)) := by
        have hil : (ints ((List.range n).map (lbl (inc legs forks)))).length = n := by rw [ints_len]; simp
        intro d
        induction d with
        | zero =>
          intro v hv
          rw [List.drop_of_length_le (by rw [List.length_range]; omega)]
          refine Ev_succ ?_
          simp only [spec_l06Is.l0]
          exact Ev.congr (fun k => if_neg (by omega)) (Ev.now _)
        | succ d ih =>
          intro v hv
          rw [List.drop_eq_getElem_cons (by rw [List.length_range]; omega), List.all_cons, List.getElem_range]
          refine Ev_succ ?_
          simp only [spec_l06Is.l0]
          refine Ev.congr (fun k => if_pos (by omega)) (Ev.congr (fun k => if_pos (by omega)) ?_)
          have ha : at_ ((List.range n).map (lbl (inc legs forks))) v = lbl (inc legs forks) v := by
            unfold at_; rw [List.getD_eq_getElem?_getD, List.getElem?_map, List.getElem?_range (by omega)]; rfl
          rw [rd_ints (by simp; omega), ha, wS (n := v) (by omega)]
          by_cases c : lbl (inc legs forks) v < legs.length
          · rw [decide_eq_true c, Bool.true_and]
            exact Ev.congr (fun k => if_neg (by omega)) (ih (v + 1) (by omega))
          · rw [decide_eq_false c, Bool.false_and]
            exact Ev.congr (fun k => if_pos (by omega)) (Ev.now _)
      exact key n 0 (by omega)
  · rw [decide_eq_false h8]
    refine Ev.congr (fun k => if_pos (by omega)) ?_
    refine Ev_succ ?_
    simp only [spec_l06Is.j0, if_true, Bool.false_and]
    exact Ev.now _
end Go.Proofs.Ytmeggliapebkgaa.Pure
end
section
namespace Go.Proofs.Ytmeggliapebkgaa.Pure
open Go.RowKit Go.Proofs.Ytmeggliapebkgaa.F Go.Proofs.Ytmeggliapebkgaa.Web Go.Proofs.YtmeggliapebkgaaW.PrintWords Go.Proofs.YtmeggliapebkgaaW.PrintLast
theorem wf_inc {l : List Int} {L : List (List Int)} (w0 : ∀ x ∈ l, (Lit.int .i64 x).wf = true) (w1 : ∀ m ∈ L, ∀ x ∈ m, (Lit.int .i64 x).wf = true) : wfW l L = true := by
  unfold wfW
  rw [List.all_eq_true]
  intro p hp
  rcases mem_inc.1 (show (p.1, p.2) ∈ inc l L from hp) with h | ⟨_, f, hf, he⟩
  · exact w0 _ (List.mem_of_getElem? h)
  · exact w1 f (List.mem_of_getElem? hf) _ he
theorem specIs_C {l : List Int} {L : List (List Int)} (hl : l.length ≤ 1048576) (hL : Small L) : Ev (fun k => spec_l06Is.f k l L) (isWebC l L) := by
  have := hL.len
  rw [isWebC_eq]
  exact specIs_ev l L (by omega) (by omega)
end Go.Proofs.Ytmeggliapebkgaa.Pure
end
section
namespace Go.Proofs.Ytmeggliapebkgaa.Pure
open Go.RowKit Go.Proofs.Ytmeggliapebkgaa.F Go.Proofs.YtmeggliapebkgaaW.PrintWords Go.Proofs.YtmeggliapebkgaaW.PrintLast
set_option linter.unusedVariables false
set_option linter.unusedSimpArgs false
def total : List (List Int) → Nat
  | [] => 0
  | r :: v => r.length + total v
def markSS : Nat → List (List Int) → List (List Int)
  | _, [] => []
  | s, r :: v => marks s r.length :: markSS (s + r.length) v
theorem mark_s_ev (s : Nat) (hs : s ≤ 1152921504606846976) (v : List Int) (hv : v.length ≤ 1152921504606846976) : Ev (fun k => laws_markInt64S.f k v (s : Int)) (((s + v.length : Nat) : Int), marks s v.length) := by
  have h := mark_l0 s hs v 0 (by omega)
  rw [Nat.zero_add] at h
  exact h
theorem held_s_ev (s N : Nat) (hb : s + N ≤ 2305843009213693952) : Ev (fun k => laws_heldInt64S.f k (marks s N) (s : Int)) ((s + N : Nat) : Int) := held_l0 s N hb N 0 (by omega)
theorem getD_midS {α : Type} (a : List α) (x d : α) (b : List α) : (a ++ x :: b).getD a.length d = x := by
  rw [List.getD_eq_getElem?_getD, List.getElem?_append_right (Nat.le_refl _)]; simp
theorem set_midS {α : Type} (a : List α) (x y : α) (b : List α) : (a ++ x :: b).set a.length y = a ++ y :: b := by
  rw [List.set_append_right _ _ (Nat.le_refl _), Nat.sub_self, List.set_cons_zero]
theorem markSS_l0 : ∀ (t : List (List Int)) (pre : List (List Int)) (s : Nat), s + t.length * 1048576 ≤ 1152921504606846976 → pre.length + t.length ≤ 1000000000 → (∀ r ∈ t, r.length ≤ 1048576) → Ev (fun k => laws_markInt64SS.l0 k (pre ++ t) (s : Int) (pre.length : Int)) (((s + total t : Nat) : Int), pre ++ markSS s t)
  | [], pre, s, _, _, _ => by
    refine Ev_succ ?_
    simp only [laws_markInt64SS.l0]
    exact Ev.congr (fun k => if_neg (by rw [List.append_nil]; omega)) (Ev.now _)
  | r :: t, pre, s, hs, hp, hr => by
    rw [List.length_cons] at hs hp
    have hr1 := hr r List.mem_cons_self
    refine Ev_succ ?_
    simp only [laws_markInt64SS.l0]
    refine Ev.congr (fun k => if_pos (by rw [List.length_append, List.length_cons]; omega)) ?_
    rw [Int.toNat_natCast, getD_midS]
    refine Ev.bind (mark_s_ev s (by omega) r (by omega)) ?_
    rw [set_midS, wS (by omega)]
    have ih := markSS_l0 t (pre ++ [marks s r.length]) (s + r.length) (by omega) (by rw [List.length_append, List.length_singleton]; omega) (fun x hx => hr x (List.mem_cons_of_mem _ hx))
    rw [List.length_append, List.length_singleton, List.append_assoc, List.singleton_append, List.append_assoc, List.singleton_append] at ih
    rw [total, markSS, show s + (r.length + total t) = s + r.length + total t from by omega]
    exact ih
theorem heldSS_l0 : ∀ (t : List (List Int)) (pre : List (List Int)) (s : Nat), s + t.length * 1048576 ≤ 1152921504606846976 → pre.length + t.length ≤ 1000000000 → (∀ r ∈ t, r.length ≤ 1048576) → Ev (fun k => laws_heldInt64SS.l0 k (pre ++ markSS s t) (s : Int) (pre.length : Int)) ((s + total t : Nat) : Int)
  | [], pre, s, _, _, _ => by
    refine Ev_succ ?_
    simp only [laws_heldInt64SS.l0]
    exact Ev.congr (fun k => if_neg (by rw [markSS, List.append_nil]; omega)) (Ev.now _)
  | r :: t, pre, s, hs, hp, hr => by
    rw [List.length_cons] at hs hp
    have hr1 := hr r List.mem_cons_self
    refine Ev_succ ?_
    simp only [laws_heldInt64SS.l0]
    rw [markSS]
    refine Ev.congr (fun k => if_pos (by rw [List.length_append, List.length_cons]; omega)) (Ev.congr (fun k => if_pos (by omega)) ?_)
    rw [show rd_L1 (pre ++ marks s r.length :: markSS (s + r.length) t) (pre.length : Int) = marks s r.length from by unfold rd_L1; rw [Int.toNat_natCast]; exact getD_midS _ _ _ _]
    refine Ev.bind (held_s_ev s r.length (by omega)) ?_
    refine Ev.congr (fun k => if_neg (by omega)) ?_
    rw [wS (by omega)]
    have ih := heldSS_l0 t (pre ++ [marks s r.length]) (s + r.length) (by omega) (by rw [List.length_append, List.length_singleton]; omega) (fun x hx => hr x (List.mem_cons_of_mem _ hx))
    rw [List.length_append, List.length_singleton, List.append_assoc, List.singleton_append] at ih
    rw [total, show s + (r.length + total t) = s + r.length + total t from by omega]
    exact ih
end Go.Proofs.Ytmeggliapebkgaa.Pure
end
section
namespace Go.Proofs.Ytmeggliapebkgaa.Pure
open Go.RowKit Go.Proofs.Ytmeggliapebkgaa.F Go.Proofs.Ytmeggliapebkgaa.Web Go.Proofs.Ytmeggliapebkgaa.Mem Go.Proofs.YtmeggliapebkgaaW.PrintWords Go.Proofs.YtmeggliapebkgaaW.PrintLast
set_option linter.unusedVariables false
set_option linter.unusedSimpArgs false
theorem ownS_f (x : List Int) (h : x.length ≤ 1048576) : spec_l01Own.f x = some x := by
  unfold spec_l01Own.f
  simp only [Option.bind_some, List.length_nil, List.nil_append]
  rw [if_pos (by omega)]
theorem clone_f (x : List Int) (h : x.length ≤ 1048576) : slices_Clone_int64_int64.f x = some x := by
  unfold slices_Clone_int64_int64.f; rw [if_pos (by omega)]
theorem copy_ev (l : List Int) (L : List (List Int)) (hl : l.length ≤ 1048576) (hL : Small L) : Ev (fun k => spec_l06Copy.f k l L) (l, L) := by
  have hLl := hL.len
  have key : ∀ d i, i + d = L.length → Ev (fun k => spec_l06Copy.l0 k (i : Int) l L l (L.take i)) (l, L) := by
    intro d
    induction d with
    | zero =>
      intro i hi
      refine Ev_succ ?_
      simp only [spec_l06Copy.l0]
      rw [List.take_of_length_le (by omega)]
      exact Ev.congr (fun k => if_neg (by omega)) (Ev.now _)
    | succ d ih =>
      intro i hi
      have h := ih (i + 1) (by omega)
      rw [take_snocD L i [] (by omega)] at h
      refine Ev_succ ?_
      simp only [spec_l06Copy.l0]
      refine Ev.congr (fun k => if_pos (by omega)) (Ev.congr (fun k => if_pos (by omega)) ?_)
      rw [wrdRow, ownS_f _ (hL.at i), wS (n := i) (by omega)]
      simp only [Option.bind_some]
      exact Ev.congr (fun k => if_pos (by rw [List.length_take]; omega)) h
  unfold spec_l06Copy.f
  rw [ownS_f l hl]
  exact key L.length 0 (by omega)
theorem cloneWeb_ev (l : List Int) (L : List (List Int)) (hl : l.length ≤ 1048576) (hL : Small L) : Ev (fun k => impl_cloneWeb.f k l L) (l, L) := by
  have hLl := hL.len
  have key : ∀ d i, i + d = L.length → Ev (fun k => impl_cloneWeb.l0 k L (L.length : Int) (i : Int) l (L.take i)) (l, L) := by
    intro d
    induction d with
    | zero =>
      intro i hi
      refine Ev_succ ?_
      simp only [impl_cloneWeb.l0]
      rw [List.take_of_length_le (by omega)]
      exact Ev.congr (fun k => if_neg (by omega)) (Ev.now _)
    | succ d ih =>
      intro i hi
      have h := ih (i + 1) (by omega)
      rw [take_snocD L i [] (by omega)] at h
      refine Ev_succ ?_
      simp only [impl_cloneWeb.l0]
      refine Ev.congr (fun k => if_pos (by omega)) (Ev.congr (fun k => if_pos (by omega)) (Ev.congr (fun k => if_pos (by omega)) ?_))
      rw [wrdRow, clone_f _ (hL.at i), wS (n := i) (by omega)]
      simp only [Option.bind_some]
      exact Ev.congr (fun k => if_pos (by rw [List.length_take]; omega)) h
  unfold impl_cloneWeb.f
  rw [clone_f l hl]
  exact key L.length 0 (by omega)
end Go.Proofs.Ytmeggliapebkgaa.Pure
end
section
namespace Go.Proofs.Ytmeggliapebkgaa.Pure
open Go.RowKit Go.Proofs.Ytmeggliapebkgaa.F Go.Proofs.Ytmeggliapebkgaa.Web Go.Proofs.Ytmeggliapebkgaa.Mem Go.Proofs.YtmeggliapebkgaaW.PrintWords Go.Proofs.YtmeggliapebkgaaW.PrintLast
set_option linter.unusedVariables false
set_option linter.unusedSimpArgs false
theorem inc_take (l : List Int) (L : List (List Int)) (n : Nat) (h : n < L.length) : inc l (L.take (n + 1)) = inc l (L.take n) ++ (L.getD n []).map fun e => (e, l.length + n) := by
  unfold inc
  rw [take_snocD L n [] h, List.zipIdx_append, List.flatMap_append, ← List.append_assoc]
  have : (L.take n).length = n := by rw [List.length_take]; omega
  rw [this]
  simp
theorem ends_app (I K : List (Int × Nat)) (e : Int) : ends (I ++ K) e = ends I e ++ ends K e := by unfold ends; rw [List.filter_append, List.map_append]
theorem ends_row (f : List Int) (e : Int) (u : Nat) : ends (f.map fun x => (x, u)) e = List.replicate (f.count e) u := by
  induction f with
  | nil => rfl
  | cons x f ih =>
    unfold ends at ih ⊢
    rw [List.map_cons, List.count_cons]
    by_cases h : x = e
    · subst h
      rw [List.filter_cons_of_pos (by simp), List.map_cons, ih]
      simp [List.replicate_succ]
    · rw [List.filter_cons_of_neg (by simpa using h), ih]
      simp [h]
theorem ends_legs {l : List Int} {e : Int} {x : Nat} (h : x ∈ ends (inc l []) e) : x < l.length := by
  have := inc_lt (mem_ends.1 h)
  simpa using this
structure Forks (s n : Nat) (T F : List Nat) : Prop where
  nil : T = [] → F = []
  one : ∀ x, T = [x] → F = [x - s] ∧ s ≤ x ∧ x < s + n
  two : ∀ x y, T = [x, y] → (x = y ∧ F = [x - s] ∨ x ≠ y ∧ F = [x - s, y - s]) ∧ s ≤ x ∧ s ≤ y ∧ x < s + n ∧ y < s + n
theorem forks_step {s n : Nat} {T F : List Nat} (h : Forks s n T F) (c : Nat) : Forks s (n + 1) (T ++ List.replicate c (s + n)) (if 0 < c then F ++ [n] else F) := by
  match c with
  | 0 =>
    rw [List.replicate_zero, List.append_nil, if_neg (by omega)]
    refine ⟨h.nil, fun x hx => ?_, fun x y hx => ?_⟩
    · obtain ⟨a, b, c⟩ := h.one x hx; exact ⟨a, b, by omega⟩
    · obtain ⟨a, b, c, d, e⟩ := h.two x y hx; exact ⟨a, b, c, by omega, by omega⟩
  | 1 =>
    rw [if_pos (by omega), show List.replicate 1 (s + n) = [s + n] from rfl]
    refine ⟨fun hx => absurd hx (by simp), fun x hx => ?_, fun x y hx => ?_⟩
    · match T, hx with
      | [], hx =>
        obtain rfl := (List.cons.inj hx).1
        rw [h.nil rfl]
        exact ⟨by simp, by omega, by omega⟩
      | a :: T, hx => exact absurd (congrArg List.length hx) (by simp)
    · match T, hx with
      | [], hx => exact absurd (congrArg List.length hx) (by simp)
      | [a], hx =>
        simp only [List.cons_append, List.nil_append, List.cons.injEq, and_true] at hx
        obtain ⟨rfl, rfl⟩ := hx
        obtain ⟨q1, q2, q3⟩ := h.one a rfl
        rw [q1]
        exact ⟨.inr ⟨by omega, by simp⟩, q2, by omega, by omega, by omega⟩
      | a :: b :: T, hx => exact absurd (congrArg List.length hx) (by simp)
  | 2 =>
    rw [if_pos (by omega), show List.replicate 2 (s + n) = [s + n, s + n] from rfl]
    refine ⟨fun hx => absurd hx (by simp), fun x hx => absurd (congrArg List.length hx) (by simp), fun x y hx => ?_⟩
    match T, hx with
    | [], hx =>
      simp only [List.nil_append, List.cons.injEq, and_true] at hx
      obtain ⟨rfl, rfl⟩ := hx
      rw [h.nil rfl]
      exact ⟨.inl ⟨rfl, by simp⟩, by omega, by omega, by omega, by omega⟩
    | a :: T, hx => exact absurd (congrArg List.length hx) (by simp)
  | c + 3 => exact ⟨fun hx => absurd (congrArg List.length hx) (by simp), fun x hx => absurd (congrArg List.length hx) (by simp; omega), fun x y hx => absurd (congrArg List.length hx) (by simp; omega)⟩
def findV (f : List Int) (e : Int) : Int := if e ∈ f then (f.idxOf e : Int) else -1
theorem findV_pos (f : List Int) (e : Int) : 0 ≤ findV f e ↔ 0 < f.count e := by
  unfold findV
  rw [List.count_pos_iff]
  by_cases h : e ∈ f
  · rw [if_pos h]; exact ⟨fun _ => h, fun _ => by omega⟩
  · rw [if_neg h]; exact ⟨fun g => absurd g (by omega), fun g => absurd g h⟩
theorem forks_all (l : List Int) (L : List (List Int)) (e : Int) : ∀ n, n ≤ L.length → ∃ T, ends (inc l (L.take n)) e = ends (inc l []) e ++ T ∧ Forks l.length n T (atTo (fun k => findV (L.getD k []) e) n)
  | 0, _ => ⟨[], by rw [List.take_zero, List.append_nil], ⟨fun _ => rfl, fun x h => (by cases h), fun x y h => (by cases h)⟩⟩
  | n + 1, h => by
    obtain ⟨T, h1, h2⟩ := forks_all l L e n (by omega)
    refine ⟨T ++ List.replicate ((L.getD n []).count e) (l.length + n), ?_, ?_⟩
    · rw [inc_take l L n (by omega), ends_app, h1, ends_row, List.append_assoc]
    · have := forks_step h2 ((L.getD n []).count e)
      rw [atTo_succ]
      by_cases g : 0 ≤ findV (L.getD n []) e
      · rw [if_pos g]; rw [if_pos ((findV_pos _ _).1 g)] at this; exact this
      · rw [if_neg g]; rw [if_neg (fun q => g ((findV_pos _ _).2 q))] at this; exact this
theorem find_val (l : List Int) (e : Int) (hl : l.length ≤ 1048576) : Ev (fun k => spec_l06Find.f k l e) (findV l e) := by
  have key : ∀ d n, n + d = l.length → e ∉ l.take n → Ev (fun k => spec_l06Find.l0 k l e (n : Int)) (findV l e) := by
    intro d
    induction d with
    | zero =>
      intro n hn hm
      rw [List.take_of_length_le (by omega)] at hm
      refine Ev_succ ?_
      simp only [spec_l06Find.l0]
      unfold findV
      rw [if_neg hm]
      exact Ev.congr (fun k => if_neg (by omega)) (Ev.now _)
    | succ d ih =>
      intro n hn hm
      refine Ev_succ ?_
      simp only [spec_l06Find.l0]
      refine Ev.congr (fun k => if_pos (by omega)) (Ev.congr (fun k => if_pos (by omega)) ?_)
      rw [rdN, wS (n := n) (by omega)]
      have hs : l.take (n + 1) = l.take n ++ [l.getD n 0] := by
        rw [List.take_succ_eq_append_getElem (by omega), List.getD_eq_getElem?_getD, List.getElem?_eq_getElem (by omega)]; rfl
      by_cases g : l.getD n 0 = e
      · refine Ev.congr (fun k => if_pos g) ?_
        have hv : findV l e = (n : Int) := by
          have hmem : e ∈ l := List.mem_of_mem_take (i := n + 1) (by rw [hs, g]; simp)
          unfold findV
          rw [if_pos hmem]
          have h2 : l = l.take (n + 1) ++ l.drop (n + 1) := (List.take_append_drop _ _).symm
          rw [hs, g, List.append_assoc, List.singleton_append] at h2
          rw [h2, idxOf_mid hm, List.length_take]
          congr 1
          omega
        rw [hv]
        exact Ev.now _
      · refine Ev.congr (fun k => if_neg g) (ih (n + 1) (by omega) ?_)
        rw [hs, List.mem_append, List.mem_singleton]
        exact fun q => q.elim hm (fun q => g q.symm)
  unfold spec_l06Find.f
  exact key l.length 0 (by omega) (by simp)
theorem around_ev (f : List Int) (e : Int) (h3 : f.length = 3) (he : e ∈ f) : Ev (fun k => impl_around.f k f e) (f.getD ((f.idxOf e + 1) % 3) 0, f.getD ((f.idxOf e + 2) % 3) 0) := by
  unfold impl_around.f
  have hi := List.idxOf_lt_length_of_mem he
  obtain ⟨p, hp⟩ : ∃ p, p = f.idxOf e := ⟨_, rfl⟩
  refine Ev.bind (index_ev f e (by omega) he) ?_
  rw [← hp] at hi ⊢
  have k1 : Int.tmod (wrap64 ((p : Int) + 1)) 3 = (((p + 1) % 3 : Nat) : Int) := by
    rw [show wrap64 ((p : Int) + 1) = ((p + 1 : Nat) : Int) from by unfold wrap64; omega]; rfl
  have k2 : Int.tmod (wrap64 ((p : Int) + 2)) 3 = (((p + 2) % 3 : Nat) : Int) := by
    rw [show wrap64 ((p : Int) + 2) = ((p + 2 : Nat) : Int) from by unfold wrap64; omega]; rfl
  rw [k1, k2]
  refine Ev.congr (fun k => if_pos (by omega)) (Ev.congr (fun k => if_pos (by omega)) (Ev.congr (fun k => if_pos (by omega)) (Ev.congr (fun k => if_pos (by omega)) ?_)))
  rw [rdN, rdN]
  exact Ev.now _
theorem rdW0 (x y : S30) : rd_T30 [x, y] 0 = x := rfl
theorem rdW1 (x y : S30) : rd_T30 [x, y] 1 = y := rfl
theorem eqTwo_ev {l : List Int} {L M : List (List Int)} (hl : l.length ≤ 1048576) (hL : Small L) (hM : Small M) : Ev (fun k => laws_eqWebS.f k [⟨l, L⟩, ⟨l, M⟩] [⟨l, L⟩, ⟨l, M⟩]) true := by
  have h2 : (([⟨l, L⟩, ⟨l, M⟩] : List S30).length : Int) = 2 := rfl
  unfold laws_eqWebS.f
  rw [h2]
  refine Ev.congr (fun k => if_pos rfl) (Ev_succ ?_)
  simp only [laws_eqWebS.l0]
  rw [h2]
  refine Ev.congr (fun k => if_pos (by decide)) (Ev.congr (fun k => if_pos (by decide)) (Ev.congr (fun k => if_pos (by decide)) ?_))
  rw [rdW0, show wrap64 (0 + 1) = 1 from by unfold wrap64; omega]
  refine Ev.bind (eqWeb_same hl hL) (Ev.congr (fun k => if_pos rfl) (Ev_succ ?_))
  simp only [laws_eqWebS.l0]
  rw [h2]
  refine Ev.congr (fun k => if_pos (by decide)) (Ev.congr (fun k => if_pos (by decide)) (Ev.congr (fun k => if_pos (by decide)) ?_))
  rw [rdW1, show wrap64 (1 + 1) = 2 from by unfold wrap64; omega]
  refine Ev.bind (eqWeb_same hl hM) (Ev.congr (fun k => if_pos rfl) (Ev_succ ?_))
  simp only [laws_eqWebS.l0]
  rw [h2]
  exact Ev.congr (fun k => if_neg (by decide)) (Ev.now _)
theorem heldTwo_ev {x y : S30} {a b c d e : Int} (ha : Ev (fun k => laws_heldInt64S.f k x.f0 a) b) (hb : Ev (fun k => laws_heldInt64SS.f k x.f1 b) c) (hc : Ev (fun k => laws_heldInt64S.f k y.f0 c) d) (hd : Ev (fun k => laws_heldInt64SS.f k y.f1 d) e) (pb : 0 ≤ b) (pc : 0 ≤ c) (pd : 0 ≤ d) (pe : 0 ≤ e) : Ev (fun k => laws_heldWebS.f k [x, y] a) e := by
  have h2 : (([x, y] : List S30).length : Int) = 2 := rfl
  unfold laws_heldWebS.f
  refine Ev_succ ?_
  simp only [laws_heldWebS.l0]
  rw [h2]
  refine Ev.congr (fun k => if_pos (by decide)) (Ev.congr (fun k => if_pos (by decide)) ?_)
  rw [rdW0, show wrap64 (0 + 1) = 1 from by unfold wrap64; omega]
  refine Ev.bind ha (Ev.congr (fun k => if_neg (by omega)) (Ev.bind hb (Ev.congr (fun k => if_neg (by omega)) (Ev_succ ?_))))
  simp only [laws_heldWebS.l0]
  rw [h2]
  refine Ev.congr (fun k => if_pos (by decide)) (Ev.congr (fun k => if_pos (by decide)) ?_)
  rw [rdW1, show wrap64 (1 + 1) = 2 from by unfold wrap64; omega]
  refine Ev.bind hc (Ev.congr (fun k => if_neg (by omega)) (Ev.bind hd (Ev.congr (fun k => if_neg (by omega)) (Ev_succ ?_))))
  simp only [laws_heldWebS.l0]
  rw [h2]
  exact Ev.congr (fun k => if_neg (by decide)) (Ev.now _)
theorem small_set {L : List (List Int)} (h : Small L) (i j : Nat) {f g : List Int} (hf : f.length ≤ 1048576) (hg : g.length ≤ 1048576) : Small ((L.set i f).set j g) := by
  refine ⟨by simpa using h.len, fun r hr => ?_⟩
  rcases List.mem_or_eq_of_mem_set hr with hr | hr
  · rcases List.mem_or_eq_of_mem_set hr with hr | hr
    · exact h.row r hr
    · rw [hr]; exact hf
  · rw [hr]; exact hg
theorem Ev_all {f : Nat → Nat → Option Int} {v : Nat → Int} : ∀ n, (∀ i, i < n → Ev (fun k => f k i) (v i)) → ∃ K, ∀ i, i < n → ∀ k, K ≤ k → f k i = some (v i)
  | 0, _ => ⟨0, fun i hi => absurd hi (by omega)⟩
  | n + 1, h => by
    obtain ⟨K, hK⟩ := Ev_all (f := f) (v := v) n (fun i hi => h i (by omega))
    obtain ⟨K2, hK2⟩ := h n (by omega)
    refine ⟨max K K2, fun i hi k hk => ?_⟩
    by_cases e : i = n
    · subst e; exact hK2 k (by omega)
    · exact hK i (by omega) k (by omega)
theorem marksTwo {l : List Int} {L M : List (List Int)} (hl : l.length ≤ 1048576) (hL : Small L) (hM : Small M) : ∃ (k1 k2 k3 k4 k8 ka : Nat) (U1 U2 U3 U4 : Int) (r1 r2 : List Int) (M1 M2 : List (List Int)), laws_markInt64S.f k1 l 1 = some (U1, r1) ∧ laws_markInt64SS.f k2 L U1 = some (U2, M1) ∧ laws_markInt64S.f k3 l U2 = some (U3, r2) ∧ laws_markInt64SS.f k4 M U3 = some (U4, M2) ∧ 0 ≤ U4 ∧ laws_heldWebS.f ka [⟨r1, M1⟩, ⟨r2, M2⟩] 1 = some U4 ∧ laws_eqWebS.f k8 [⟨l, L⟩, ⟨l, M⟩] [⟨l, L⟩, ⟨l, M⟩] = some true := by
  have h1 := hL.len
  have h2 := hM.len
  have tot : ∀ (N : List (List Int)), (∀ r ∈ N, r.length ≤ 1048576) → total N ≤ N.length * 1048576 := by
    intro N
    induction N with
    | nil => intro _; exact Nat.zero_le _
    | cons r N ih =>
      intro h
      have := ih (fun x hx => h x (List.mem_cons_of_mem _ hx))
      have := h r List.mem_cons_self
      rw [total, List.length_cons, Nat.add_mul]
      omega
  have t1 := tot L hL.row
  have t2 := tot M hM.row
  obtain ⟨k1, e1⟩ := Ev.rounds (mark_s_ev 1 (by omega) l (by omega))
  obtain ⟨k2, e2⟩ := Ev.rounds (markSS_l0 L [] (1 + l.length) (by omega) (by simp; omega) hL.row)
  obtain ⟨k3, e3⟩ := Ev.rounds (mark_s_ev (1 + l.length + total L) (by omega) l (by omega))
  obtain ⟨k4, e4⟩ := Ev.rounds (markSS_l0 M [] (1 + l.length + total L + l.length) (by omega) (by simp; omega) hM.row)
  obtain ⟨ka, ea⟩ := Ev.rounds (heldTwo_ev (x := ⟨marks 1 l.length, markSS (1 + l.length) L⟩) (y := ⟨marks (1 + l.length + total L) l.length, markSS (1 + l.length + total L + l.length) M⟩) (held_s_ev 1 l.length (by omega)) (heldSS_l0 L [] (1 + l.length) (by omega) (by simp; omega) hL.row) (held_s_ev (1 + l.length + total L) l.length (by omega)) (heldSS_l0 M [] (1 + l.length + total L + l.length) (by omega) (by simp; omega) hM.row) (by omega) (by omega) (by omega) (by omega))
  obtain ⟨k8, e8⟩ := Ev.rounds (eqTwo_ev hl hL hM)
  exact ⟨k1, k2, k3, k4, k8, ka, _, _, _, _, _, _, _, _, e1, e2, e3, e4, by omega, ea, e8⟩
theorem isWeb_t {l : List Int} {L : List (List Int)} (hl : l.length ≤ 1048576) (hL : Small L) (hw : wfW l L = true) : impl_IsWeb.f l L = some (isWebC l L) := by
  have := hL.len
  unfold impl_IsWeb.f
  rw [if_pos ⟨by omega, by omega, hw⟩]
theorem FnExactThreeWebs (l : List Int) (L : List (List Int)) (m0 : l.length ≤ maxLen) (m1 : L.length ≤ maxLen) (w0 : ∀ x ∈ l, (Lit.int .i64 x).wf = true) (w1 : ∀ m ∈ L, m.length ≤ maxLen ∧ ∀ x ∈ m, (Lit.int .i64 x).wf = true) (e : Int) (we : (Lit.int .i64 e).wf = true) : laws_FnExactThreeWebs.Good l L e ∧ true = true := by
  refine ⟨?_, rfl⟩
  obtain ⟨t, ht, hq⟩ := szWeb_ev l L m0 m1 (fun m hm => (w1 m hm).1)
  obtain ⟨k0, e0⟩ := Ev.rounds ht
  by_cases g : t < 0
  · exact .inl ⟨k0, t, e0, g⟩
  · obtain ⟨hl, hL⟩ := hq (by omega)
    have hLl := hL.len
    have hwf := wf_inc w0 (fun m hm => (w1 m hm).2)
    obtain ⟨k1, e1⟩ := Ev.rounds (toWeb_ev hl hL)
    obtain ⟨k5, e5⟩ := Ev.rounds (eqWeb_same hl hL)
    obtain ⟨k6, e6⟩ := Ev.rounds (mark_s_ev 1 (by omega) l (by omega))
    obtain ⟨k7, e7⟩ := Ev.rounds (markSS_l0 L [] (1 + l.length) (by omega) (by simp; omega) hL.row)
    refine .inr ⟨⟨k0, k1, k5, k6, k7, t, _, _, _, _, e0, by omega, e1, e5, e6, e7, by omega, by omega⟩, ?_⟩
    obtain ⟨ks, es⟩ := Ev.rounds (specIs_C hl hL)
    have ei := isWeb_t hl hL hwf
    cases hweb : isWebC l L with
    | false =>
      rw [hweb] at es ei
      exact .inl ⟨ks, es, ei⟩
    | true =>
      rw [hweb] at es ei
      obtain ⟨h8, h3, htw, _⟩ := web_of hweb
      obtain ⟨kf, hkf⟩ := Ev_all (f := fun k i => spec_l06Find.f k (L.getD i []) e) (v := fun k => findV (L.getD k []) e) L.length (fun i hi => find_val _ e (hL.at i))
      have hf : ∀ n, n < L.length → spec_l06Find.f kf (L.getD n []) e = some ((fun k => findV (L.getD k []) e) n) := fun n hn => hkf n hn kf (Nat.le_refl _)
      obtain ⟨T, hT, hF⟩ := forks_all l L e L.length (Nat.le_refl _)
      rw [List.take_length] at hT
      have hlen : ends (inc l L) e = [] ∨ (ends (inc l L) e).length = 2 := by
        by_cases h : ends (inc l L) e = []
        · exact .inl h
        · right
          obtain ⟨u, hu⟩ := List.exists_mem_of_ne_nil _ h
          have := List.all_eq_true.1 htw (e, u) (mem_ends.1 hu)
          simp only [Bool.and_eq_true, beq_iff_eq] at this
          exact this.2
      have none_ : ∀ (hno : (atTo (fun k => findV (L.getD k []) e) L.length).length ≠ 2) (hen : ends (inc l L) e = [] ∨ (∃ x y, ends (inc l L) e = [x, y] ∧ x < l.length) ∨ ∃ x, ends (inc l L) e = [x, x] ∧ l.length ≤ x), Way3 l L e := fun hno hen => .inr (.inl ⟨ks, kf, _, es, ei, hweb, hwf, we, h8, hf, hno, hen⟩)
      cases hE : ends (inc l []) e with
      | cons x E1 =>
        rw [hE, List.cons_append] at hT
        rcases hlen with h | h
        · rw [hT] at h; cases h
        · have hx : x < l.length := ends_legs (by rw [hE]; exact List.mem_cons_self)
          rw [hT, List.length_cons, List.length_append] at h
          refine none_ ?_ (.inr (.inl ?_))
          · match T, h with
            | [], _ => rw [hF.nil rfl]; decide
            | [y], _ => rw [(hF.one y rfl).1]; simp
            | y :: z :: T, h => simp only [List.length_cons] at h; omega
          · rw [hT]
            match hEE : E1 ++ T, (by rw [List.length_append]; omega : (E1 ++ T).length = 1) with
            | [y], _ => exact ⟨x, y, rfl, hx⟩
      | nil =>
        rw [hE, List.nil_append] at hT
        rcases hlen with h | h
        · refine none_ ?_ (.inl h)
          rw [hT] at h
          rw [hF.nil h]; decide
        · rw [hT] at h
          match T, h with
          | [x, y], _ =>
            obtain ⟨hxy, a1, a2, a3, a4⟩ := hF.two x y rfl
            rcases hxy with ⟨rfl, hFF⟩ | ⟨hne, hFF⟩
            · refine none_ ?_ (.inr (.inr ⟨x, hT, a1⟩))
              rw [hFF]; simp
            · obtain ⟨i, rfl⟩ : ∃ i, x = l.length + i := ⟨x - l.length, by omega⟩
              obtain ⟨j, rfl⟩ : ∃ j, y = l.length + j := ⟨y - l.length, by omega⟩
              rw [Nat.add_sub_cancel_left, Nat.add_sub_cancel_left] at hFF
              have hi : i < L.length := by omega
              have hj : j < L.length := by omega
              have mem : ∀ k, k ∈ atTo (fun k => findV (L.getD k []) e) L.length → e ∈ L.getD k [] := fun k hk => by
                unfold atTo at hk
                have := (List.mem_filter.1 hk).2
                exact List.count_pos_iff.1 ((findV_pos _ _).1 (of_decide_eq_true this))
              have mi := mem i (by rw [hFF]; simp)
              have mj := mem j (by rw [hFF]; simp)
              have r3 : ∀ k, k < L.length → (L.getD k []).length = 3 := fun k hk => h3 _ (by rw [List.getD_eq_getElem?_getD, List.getElem?_eq_getElem hk]; exact List.getElem_mem _)
              have li := r3 i hi
              have lj := r3 j hj
              obtain ⟨K1, hK1⟩ := around_ev _ e li mi
              obtain ⟨K2, hK2⟩ := around_ev _ e lj mj
              obtain ⟨K3, hK3⟩ := cloneWeb_ev l L hl hL
              obtain ⟨kc, ec⟩ := Ev.rounds (copy_ev l L hl hL)
              have pi3 := List.idxOf_lt_length_of_mem mi
              have pj3 := List.idxOf_lt_length_of_mem mj
              refine .inr (.inr ⟨ks, kf, kc, max K1 (max K2 K3), _, i, j, (L.getD i []).idxOf e, (L.getD j []).idxOf e, _, _, _, _, es, ei, hweb, hwf, we, h8, hf, hFF, hi, hj, fun h => hne (by omega), li, lj, by simp only [findV]; rw [if_pos mi], by simp only [findV]; rw [if_pos mj], by omega, by omega, rfl, rfl, rfl, rfl, ec, hK3 _ (by omega), hT, hK1 _ (by omega), hK2 _ (by omega), ?_⟩)
              exact marksTwo hl (small_set hL i j (by simp) (by simp)) (small_set hL i j (by simp) (by simp))
end Go.Proofs.Ytmeggliapebkgaa.Pure
end
section
namespace Go.Proofs.Ytmeggliapebkgaa.Open
open Go.ChangeShapes Go.WideShapes Go.RowKit Go.Joins Go.Deep Go.Proofs.YtmeggliapebkgaaW.PrintWords
theorem row_open {w : World} {P : Program} {H : Type} {enc : TypeId × Value → H} {t e : TypeId} {fuel : Nat} {v : Value} {x : DataW H × List MemPlace} (ht : P.underlying t = some (.slice e)) (he : P.underlying e = some (.int .i64)) (ce : P.cellsOf e = 1)
    (h : DataW.trod enc P w 0 (fun _ => true) true fuel t [v] = some x) : ∃ (A : Option Addr) (c : Nat) (l : List Int), v = .slice A l.length c ∧ Kd.C (Kd.int .i64) w A l.length l ∧ l.length ≤ c ∧ l.length ≤ maxLen ∧ ∀ n ∈ l, (Lit.int .i64 n).wf = true := by
  rcases open_ints ht he ce h with ⟨hcs, _⟩ | ⟨a, l, c, zs, hcs, _, hl, hm, hz, _, hcell, hwz⟩
  · obtain rfl : v = .slice none 0 0 := by simpa using hcs
    refine ⟨none, 0, [], rfl, ⟨rfl, Nat.zero_le _, fun hp => absurd hp (Nat.lt_irrefl _)⟩, Nat.le_refl _, Nat.zero_le _, by simp⟩
  · obtain rfl : v = .slice (some a) l c := by simpa using hcs
    simp only [if_true] at hz
    obtain ⟨l0, hll, hr0, hm0, hw0, hc0⟩ := ReadsInt.ofRowC (w := w) (k := .i64) (a := some a) (len := l) (cap := c) (zs := zs) (.inr ⟨a, rfl, hl, hm, hz, hcell, hwz⟩)
    subst hll
    exact ⟨some a, c, l0, rfl, Kd.C_of_reads (d := (0 : Int)) (h1 := fun _ => rfl) hr0, hc0, hm0, hw0⟩
theorem rows_open {w : World} {P : Program} {H : Type} {enc : TypeId × Value → H} {t e q : TypeId} {fuel : Nat} {v : Value} {x : DataW H × List MemPlace} (ht : P.underlying t = some (.slice e)) (he : P.underlying e = some (.slice q)) (hq : P.underlying q = some (.int .i64)) (ce : P.cellsOf e = 1) (cq : P.cellsOf q = 1)
    (h : DataW.trod enc P w 0 (fun _ => true) true fuel t [v] = some x) : ∃ (A : Option Addr) (c : Nat) (L : List (List Int)), v = .slice A L.length c ∧ Kd.C (Kd.slice q (Kd.int .i64)) w A L.length L ∧ L.length ≤ c ∧ L.length ≤ maxLen ∧ ∀ l ∈ L, l.length ≤ maxLen ∧ ∀ n ∈ l, (Lit.int .i64 n).wf = true := by
  rcases open_slice1 ht ce h with ⟨hcs, _⟩ | ⟨a, len, cap, m, n, V, D, Pl, hcs, _, hl, hm, hmm, _, hx⟩
  · obtain rfl : v = .slice none 0 0 := by simpa using hcs
    refine ⟨none, 0, [], rfl, ⟨rfl, Nat.zero_le _, fun hp => absurd hp (Nat.lt_irrefl _)⟩, Nat.le_refl _, Nat.zero_le _, by simp⟩
  · obtain rfl : v = .slice (some a) len cap := by simpa using hcs
    simp only [if_true] at hmm
    subst hmm
    have each : ∀ r, r < len → ∃ y : Option Addr × Nat × List Int, V r = .slice y.1 y.2.2.length y.2.1 ∧ Kd.C (Kd.int .i64) w y.1 y.2.2.length y.2.2 ∧ y.2.2.length ≤ y.2.1 ∧ y.2.2.length ≤ maxLen ∧ ∀ n ∈ y.2.2, (Lit.int .i64 n).wf = true := by
      intro r hr
      obtain ⟨A, c, l, h1, h2, h3, h4, h5⟩ := row_open he hq cq (hx r (by omega)).2
      exact ⟨(A, c, l), h1, h2, h3, h4, h5⟩
    obtain ⟨y, hy⟩ := choose_lt each
    have hlen : ((List.range len).map fun r => (y r).2.2).length = len := by simp
    have hm' := hm
    unfold maxLen at hm'
    refine ⟨some a, m, (List.range len).map fun r => (y r).2.2, by rw [hlen], ?_, by rw [hlen]; exact hl, by rw [hlen]; omega, fun l hl' => ?_⟩
    · refine ⟨rfl, by rw [hlen]; omega, fun _ => ⟨a, rfl, fun j p hj => ?_⟩⟩
      obtain ⟨hj1, hj2⟩ := List.getElem?_eq_some_iff.1 hj
      have hjl : j < len := by rw [hlen] at hj1; exact hj1
      rw [List.getElem_map, List.getElem_range] at hj2
      obtain ⟨h1, h2, h3, _, _⟩ := hy j hjl
      rw [hj2] at h1 h2 h3
      refine ⟨[V j], rfl, ?_, fun i u hu => ?_⟩
      · rw [h1]; exact ⟨_, _, rfl, h3, h2⟩
      · cases i with
        | zero =>
          rw [show (Kd.slice q (Kd.int .i64)).sz = 1 from rfl, Nat.mul_one, Nat.add_zero]
          rw [(hx j (by omega)).1]
          simpa using hu
        | succ i => simp at hu
    · obtain ⟨r, hr, rfl⟩ := List.mem_map.1 hl'
      have := hy r (List.mem_range.1 hr)
      exact ⟨this.2.2.2.1, this.2.2.2.2⟩
theorem web_open {w : World} {P : Program} {H : Type} {enc : TypeId × Value → H} {r : Reach} {b0 : Nat} {t e q ti : TypeId} {f0 f1 : Field} {v : Value} {d : DataW H} {p : List MemPlace} (hs : P.underlying t = some (.struct #[f0, f1])) (h0 : f0.type = e) (h1 : f1.type = ti) (hone : oneCellFields P #[f0, f1] = true) (hC : P.cellsOf t = 2)
    (ht : P.underlying ti = some (.slice e)) (he : P.underlying e = some (.slice q)) (hq : P.underlying q = some (.int .i64)) (ce : P.cellsOf e = 1) (cq : P.cellsOf q = 1)
    (hv : Value.okWide P w r b0 t v) (h : DataW.Trod enc P w 0 (fun _ => true) true t v d p) :
    ∃ (A0 : Option Addr) (c0 : Nat) (l : List Int) (A1 : Option Addr) (c1 : Nat) (L : List (List Int)), v = .agg #[.slice A0 l.length c0, .slice A1 L.length c1] ∧ Kd.C (Kd.int .i64) w A0 l.length l ∧ l.length ≤ c0 ∧ Kd.C (Kd.slice q (Kd.int .i64)) w A1 L.length L ∧ L.length ≤ c1 ∧ l.length ≤ maxLen ∧ L.length ≤ maxLen ∧ (∀ n ∈ l, (Lit.int .i64 n).wf = true) ∧ ∀ m ∈ L, m.length ≤ maxLen ∧ ∀ n ∈ m, (Lit.int .i64 n).wf = true := by
  obtain ⟨v0, v1, y0, y1, n, rfl, _, _, g0, g1⟩ := open_agg2 hs hone hC hv h
  rw [h0] at g0
  rw [h1] at g1
  obtain ⟨A0, c0, l, rfl, a1, a2, a3, a4⟩ := row_open he hq cq g0
  obtain ⟨A1, c1, L, rfl, b1, b2, b3, b4⟩ := rows_open ht he hq ce cq g1
  exact ⟨A0, c0, l, A1, c1, L, rfl, a1, a2, b1, b2, a3, b3, a4, b4⟩
end Go.Proofs.Ytmeggliapebkgaa.Open
end
section
namespace Go.Proofs.Ytmeggliapebkgaa.Head
open Go
set_option maxRecDepth 100000
theorem and_ok {a b : Bool} (ha : a = true) (hb : b = true) : (a && b) = true := by rw [ha, hb]; rfl
theorem signs : Try.prog.initOrder.toList = [104, 97, 114, 110, 101, 115, 115, 32, 52, 97, 50, 56, 99, 52, 53, 98, 50, 98, 51, 48, 99, 53, 53, 55, 55, 49, 101, 101, 101, 57, 56, 102, 52, 48, 98, 101, 48, 53, 56, 51, 99, 52, 49, 102, 99, 50, 54, 102, 54, 50, 102, 98, 99, 55, 56, 49, 57, 48, 52, 101, 50, 56, 100, 54, 100, 53, 51, 55, 48, 98, 98, 100, 32, 99, 117, 116, 32, 97, 116, 32, 108, 111, 111, 112, 46, 101, 120, 97, 109, 112, 108, 101, 47, 103, 48, 49, 51, 48, 51, 47, 108, 97, 119, 115, 46, 70, 110, 69, 120, 97, 99, 116, 84, 104, 114, 101, 101, 87, 101, 98, 115, 32, 108, 111, 111, 112, 46, 101, 120, 97, 109, 112, 108, 101, 47, 103, 48, 49, 51, 48, 51, 47, 108, 97, 119, 115, 46, 70, 110, 69, 120, 97, 99, 116, 73, 115, 68, 101, 115, 107, 32, 108, 111, 111, 112, 46, 101, 120, 97, 109, 112, 108, 101, 47, 103, 48, 49, 51, 48, 51, 47, 108, 97, 119, 115, 46, 70, 110, 69, 120, 97, 99, 116, 73, 110, 116, 101, 114, 108, 97, 99, 101, 80, 111, 108, 121, 110, 111, 109, 105, 97, 108, 32, 108, 111, 111, 112, 46, 101, 120, 97, 109, 112, 108, 101, 47, 103, 48, 49, 51, 48, 51, 47, 108, 97, 119, 115, 46, 70, 110, 69, 120, 97, 99, 116, 86, 97, 108, 117, 101, 79, 102, 73, 110, 116, 101, 114, 108, 97, 99, 101, 32, 108, 111, 111, 112, 46, 101, 120, 97, 109, 112, 108, 101, 47, 103, 48, 49, 51, 48, 51, 47, 108, 97, 119, 115, 46, 70, 110, 69, 120, 97, 99, 116, 67, 111, 109, 109, 117, 116, 97, 116, 111, 114, 79, 102, 32, 108, 111, 111, 112, 46, 101, 120, 97, 109, 112, 108, 101, 47, 103, 48, 49, 51, 48, 51, 47, 108, 97, 119, 115, 46, 70, 110, 69, 120, 97, 99, 116, 76, 111, 103, 97, 114, 105, 116, 104, 109, 79, 102, 32, 108, 111, 111, 112, 46, 101, 120, 97, 109, 112, 108, 101, 47, 103, 48, 49, 51, 48, 51, 47, 108, 97, 119, 115, 46, 70, 110, 69, 120, 97, 99, 116, 69, 120, 112, 111, 110, 101, 110, 116, 105, 97, 108, 79, 102].map Char.ofNat := by
  have h : Try.prog.initOrder = String.ofList ([104, 97, 114, 110, 101, 115, 115, 32, 52, 97, 50, 56, 99, 52, 53, 98, 50, 98, 51, 48, 99, 53, 53, 55, 55, 49, 101, 101, 101, 57, 56, 102, 52, 48, 98, 101, 48, 53, 56, 51, 99, 52, 49, 102, 99, 50, 54, 102, 54, 50, 102, 98, 99, 55, 56, 49, 57, 48, 52, 101, 50, 56, 100, 54, 100, 53, 51, 55, 48, 98, 98, 100, 32, 99, 117, 116, 32, 97, 116, 32, 108, 111, 111, 112, 46, 101, 120, 97, 109, 112, 108, 101, 47, 103, 48, 49, 51, 48, 51, 47, 108, 97, 119, 115, 46, 70, 110, 69, 120, 97, 99, 116, 84, 104, 114, 101, 101, 87, 101, 98, 115, 32, 108, 111, 111, 112, 46, 101, 120, 97, 109, 112, 108, 101, 47, 103, 48, 49, 51, 48, 51, 47, 108, 97, 119, 115, 46, 70, 110, 69, 120, 97, 99, 116, 73, 115, 68, 101, 115, 107, 32, 108, 111, 111, 112, 46, 101, 120, 97, 109, 112, 108, 101, 47, 103, 48, 49, 51, 48, 51, 47, 108, 97, 119, 115, 46, 70, 110, 69, 120, 97, 99, 116, 73, 110, 116, 101, 114, 108, 97, 99, 101, 80, 111, 108, 121, 110, 111, 109, 105, 97, 108, 32, 108, 111, 111, 112, 46, 101, 120, 97, 109, 112, 108, 101, 47, 103, 48, 49, 51, 48, 51, 47, 108, 97, 119, 115, 46, 70, 110, 69, 120, 97, 99, 116, 86, 97, 108, 117, 101, 79, 102, 73, 110, 116, 101, 114, 108, 97, 99, 101, 32, 108, 111, 111, 112, 46, 101, 120, 97, 109, 112, 108, 101, 47, 103, 48, 49, 51, 48, 51, 47, 108, 97, 119, 115, 46, 70, 110, 69, 120, 97, 99, 116, 67, 111, 109, 109, 117, 116, 97, 116, 111, 114, 79, 102, 32, 108, 111, 111, 112, 46, 101, 120, 97, 109, 112, 108, 101, 47, 103, 48, 49, 51, 48, 51, 47, 108, 97, 119, 115, 46, 70, 110, 69, 120, 97, 99, 116, 76, 111, 103, 97, 114, 105, 116, 104, 109, 79, 102, 32, 108, 111, 111, 112, 46, 101, 120, 97, 109, 112, 108, 101, 47, 103, 48, 49, 51, 48, 51, 47, 108, 97, 119, 115, 46, 70, 110, 69, 120, 97, 99, 116, 69, 120, 112, 111, 110, 101, 110, 116, 105, 97, 108, 79, 102].map Char.ofNat) := by kernel_rfl
  rw [h, String.toList_ofList]
theorem words : wordsSigns Try.prog.initOrder.toList = [[104, 97, 114, 110, 101, 115, 115].map Char.ofNat, [52, 97, 50, 56, 99, 52, 53, 98, 50, 98, 51, 48, 99, 53, 53, 55, 55, 49, 101, 101, 101, 57, 56, 102, 52, 48, 98, 101, 48, 53, 56, 51, 99, 52, 49, 102, 99, 50, 54, 102, 54, 50, 102, 98, 99, 55, 56, 49, 57, 48, 52, 101, 50, 56, 100, 54, 100, 53, 51, 55, 48, 98, 98, 100].map Char.ofNat, [99, 117, 116].map Char.ofNat, [97, 116].map Char.ofNat, [108, 111, 111, 112, 46, 101, 120, 97, 109, 112, 108, 101, 47, 103, 48, 49, 51, 48, 51, 47, 108, 97, 119, 115, 46, 70, 110, 69, 120, 97, 99, 116, 84, 104, 114, 101, 101, 87, 101, 98, 115].map Char.ofNat, [108, 111, 111, 112, 46, 101, 120, 97, 109, 112, 108, 101, 47, 103, 48, 49, 51, 48, 51, 47, 108, 97, 119, 115, 46, 70, 110, 69, 120, 97, 99, 116, 73, 115, 68, 101, 115, 107].map Char.ofNat, [108, 111, 111, 112, 46, 101, 120, 97, 109, 112, 108, 101, 47, 103, 48, 49, 51, 48, 51, 47, 108, 97, 119, 115, 46, 70, 110, 69, 120, 97, 99, 116, 73, 110, 116, 101, 114, 108, 97, 99, 101, 80, 111, 108, 121, 110, 111, 109, 105, 97, 108].map Char.ofNat, [108, 111, 111, 112, 46, 101, 120, 97, 109, 112, 108, 101, 47, 103, 48, 49, 51, 48, 51, 47, 108, 97, 119, 115, 46, 70, 110, 69, 120, 97, 99, 116, 86, 97, 108, 117, 101, 79, 102, 73, 110, 116, 101, 114, 108, 97, 99, 101].map Char.ofNat, [108, 111, 111, 112, 46, 101, 120, 97, 109, 112, 108, 101, 47, 103, 48, 49, 51, 48, 51, 47, 108, 97, 119, 115, 46, 70, 110, 69, 120, 97, 99, 116, 67, 111, 109, 109, 117, 116, 97, 116, 111, 114, 79, 102].map Char.ofNat, [108, 111, 111, 112, 46, 101, 120, 97, 109, 112, 108, 101, 47, 103, 48, 49, 51, 48, 51, 47, 108, 97, 119, 115, 46, 70, 110, 69, 120, 97, 99, 116, 76, 111, 103, 97, 114, 105, 116, 104, 109, 79, 102].map Char.ofNat, [108, 111, 111, 112, 46, 101, 120, 97, 109, 112, 108, 101, 47, 103, 48, 49, 51, 48, 51, 47, 108, 97, 119, 115, 46, 70, 110, 69, 120, 97, 99, 116, 69, 120, 112, 111, 110, 101, 110, 116, 105, 97, 108, 79, 102].map Char.ofNat] := by
  rw [signs]
  kernel_rfl
theorem behind : behindMainWord [[104, 97, 114, 110, 101, 115, 115].map Char.ofNat, [52, 97, 50, 56, 99, 52, 53, 98, 50, 98, 51, 48, 99, 53, 53, 55, 55, 49, 101, 101, 101, 57, 56, 102, 52, 48, 98, 101, 48, 53, 56, 51, 99, 52, 49, 102, 99, 50, 54, 102, 54, 50, 102, 98, 99, 55, 56, 49, 57, 48, 52, 101, 50, 56, 100, 54, 100, 53, 51, 55, 48, 98, 98, 100].map Char.ofNat, [99, 117, 116].map Char.ofNat, [97, 116].map Char.ofNat, [108, 111, 111, 112, 46, 101, 120, 97, 109, 112, 108, 101, 47, 103, 48, 49, 51, 48, 51, 47, 108, 97, 119, 115, 46, 70, 110, 69, 120, 97, 99, 116, 84, 104, 114, 101, 101, 87, 101, 98, 115].map Char.ofNat, [108, 111, 111, 112, 46, 101, 120, 97, 109, 112, 108, 101, 47, 103, 48, 49, 51, 48, 51, 47, 108, 97, 119, 115, 46, 70, 110, 69, 120, 97, 99, 116, 73, 115, 68, 101, 115, 107].map Char.ofNat, [108, 111, 111, 112, 46, 101, 120, 97, 109, 112, 108, 101, 47, 103, 48, 49, 51, 48, 51, 47, 108, 97, 119, 115, 46, 70, 110, 69, 120, 97, 99, 116, 73, 110, 116, 101, 114, 108, 97, 99, 101, 80, 111, 108, 121, 110, 111, 109, 105, 97, 108].map Char.ofNat, [108, 111, 111, 112, 46, 101, 120, 97, 109, 112, 108, 101, 47, 103, 48, 49, 51, 48, 51, 47, 108, 97, 119, 115, 46, 70, 110, 69, 120, 97, 99, 116, 86, 97, 108, 117, 101, 79, 102, 73, 110, 116, 101, 114, 108, 97, 99, 101].map Char.ofNat, [108, 111, 111, 112, 46, 101, 120, 97, 109, 112, 108, 101, 47, 103, 48, 49, 51, 48, 51, 47, 108, 97, 119, 115, 46, 70, 110, 69, 120, 97, 99, 116, 67, 111, 109, 109, 117, 116, 97, 116, 111, 114, 79, 102].map Char.ofNat, [108, 111, 111, 112, 46, 101, 120, 97, 109, 112, 108, 101, 47, 103, 48, 49, 51, 48, 51, 47, 108, 97, 119, 115, 46, 70, 110, 69, 120, 97, 99, 116, 76, 111, 103, 97, 114, 105, 116, 104, 109, 79, 102].map Char.ofNat, [108, 111, 111, 112, 46, 101, 120, 97, 109, 112, 108, 101, 47, 103, 48, 49, 51, 48, 51, 47, 108, 97, 119, 115, 46, 70, 110, 69, 120, 97, 99, 116, 69, 120, 112, 111, 110, 101, 110, 116, 105, 97, 108, 79, 102].map Char.ofNat] = [[99, 117, 116].map Char.ofNat, [97, 116].map Char.ofNat, [108, 111, 111, 112, 46, 101, 120, 97, 109, 112, 108, 101, 47, 103, 48, 49, 51, 48, 51, 47, 108, 97, 119, 115, 46, 70, 110, 69, 120, 97, 99, 116, 84, 104, 114, 101, 101, 87, 101, 98, 115].map Char.ofNat, [108, 111, 111, 112, 46, 101, 120, 97, 109, 112, 108, 101, 47, 103, 48, 49, 51, 48, 51, 47, 108, 97, 119, 115, 46, 70, 110, 69, 120, 97, 99, 116, 73, 115, 68, 101, 115, 107].map Char.ofNat, [108, 111, 111, 112, 46, 101, 120, 97, 109, 112, 108, 101, 47, 103, 48, 49, 51, 48, 51, 47, 108, 97, 119, 115, 46, 70, 110, 69, 120, 97, 99, 116, 73, 110, 116, 101, 114, 108, 97, 99, 101, 80, 111, 108, 121, 110, 111, 109, 105, 97, 108].map Char.ofNat, [108, 111, 111, 112, 46, 101, 120, 97, 109, 112, 108, 101, 47, 103, 48, 49, 51, 48, 51, 47, 108, 97, 119, 115, 46, 70, 110, 69, 120, 97, 99, 116, 86, 97, 108, 117, 101, 79, 102, 73, 110, 116, 101, 114, 108, 97, 99, 101].map Char.ofNat, [108, 111, 111, 112, 46, 101, 120, 97, 109, 112, 108, 101, 47, 103, 48, 49, 51, 48, 51, 47, 108, 97, 119, 115, 46, 70, 110, 69, 120, 97, 99, 116, 67, 111, 109, 109, 117, 116, 97, 116, 111, 114, 79, 102].map Char.ofNat, [108, 111, 111, 112, 46, 101, 120, 97, 109, 112, 108, 101, 47, 103, 48, 49, 51, 48, 51, 47, 108, 97, 119, 115, 46, 70, 110, 69, 120, 97, 99, 116, 76, 111, 103, 97, 114, 105, 116, 104, 109, 79, 102].map Char.ofNat, [108, 111, 111, 112, 46, 101, 120, 97, 109, 112, 108, 101, 47, 103, 48, 49, 51, 48, 51, 47, 108, 97, 119, 115, 46, 70, 110, 69, 120, 97, 99, 116, 69, 120, 112, 111, 110, 101, 110, 116, 105, 97, 108, 79, 102].map Char.ofNat] := by kernel_rfl
theorem strip : stripLifts liftWords [[99, 117, 116].map Char.ofNat, [97, 116].map Char.ofNat, [108, 111, 111, 112, 46, 101, 120, 97, 109, 112, 108, 101, 47, 103, 48, 49, 51, 48, 51, 47, 108, 97, 119, 115, 46, 70, 110, 69, 120, 97, 99, 116, 84, 104, 114, 101, 101, 87, 101, 98, 115].map Char.ofNat, [108, 111, 111, 112, 46, 101, 120, 97, 109, 112, 108, 101, 47, 103, 48, 49, 51, 48, 51, 47, 108, 97, 119, 115, 46, 70, 110, 69, 120, 97, 99, 116, 73, 115, 68, 101, 115, 107].map Char.ofNat, [108, 111, 111, 112, 46, 101, 120, 97, 109, 112, 108, 101, 47, 103, 48, 49, 51, 48, 51, 47, 108, 97, 119, 115, 46, 70, 110, 69, 120, 97, 99, 116, 73, 110, 116, 101, 114, 108, 97, 99, 101, 80, 111, 108, 121, 110, 111, 109, 105, 97, 108].map Char.ofNat, [108, 111, 111, 112, 46, 101, 120, 97, 109, 112, 108, 101, 47, 103, 48, 49, 51, 48, 51, 47, 108, 97, 119, 115, 46, 70, 110, 69, 120, 97, 99, 116, 86, 97, 108, 117, 101, 79, 102, 73, 110, 116, 101, 114, 108, 97, 99, 101].map Char.ofNat, [108, 111, 111, 112, 46, 101, 120, 97, 109, 112, 108, 101, 47, 103, 48, 49, 51, 48, 51, 47, 108, 97, 119, 115, 46, 70, 110, 69, 120, 97, 99, 116, 67, 111, 109, 109, 117, 116, 97, 116, 111, 114, 79, 102].map Char.ofNat, [108, 111, 111, 112, 46, 101, 120, 97, 109, 112, 108, 101, 47, 103, 48, 49, 51, 48, 51, 47, 108, 97, 119, 115, 46, 70, 110, 69, 120, 97, 99, 116, 76, 111, 103, 97, 114, 105, 116, 104, 109, 79, 102].map Char.ofNat, [108, 111, 111, 112, 46, 101, 120, 97, 109, 112, 108, 101, 47, 103, 48, 49, 51, 48, 51, 47, 108, 97, 119, 115, 46, 70, 110, 69, 120, 97, 99, 116, 69, 120, 112, 111, 110, 101, 110, 116, 105, 97, 108, 79, 102].map Char.ofNat] = ([], [[99, 117, 116].map Char.ofNat, [97, 116].map Char.ofNat, [108, 111, 111, 112, 46, 101, 120, 97, 109, 112, 108, 101, 47, 103, 48, 49, 51, 48, 51, 47, 108, 97, 119, 115, 46, 70, 110, 69, 120, 97, 99, 116, 84, 104, 114, 101, 101, 87, 101, 98, 115].map Char.ofNat, [108, 111, 111, 112, 46, 101, 120, 97, 109, 112, 108, 101, 47, 103, 48, 49, 51, 48, 51, 47, 108, 97, 119, 115, 46, 70, 110, 69, 120, 97, 99, 116, 73, 115, 68, 101, 115, 107].map Char.ofNat, [108, 111, 111, 112, 46, 101, 120, 97, 109, 112, 108, 101, 47, 103, 48, 49, 51, 48, 51, 47, 108, 97, 119, 115, 46, 70, 110, 69, 120, 97, 99, 116, 73, 110, 116, 101, 114, 108, 97, 99, 101, 80, 111, 108, 121, 110, 111, 109, 105, 97, 108].map Char.ofNat, [108, 111, 111, 112, 46, 101, 120, 97, 109, 112, 108, 101, 47, 103, 48, 49, 51, 48, 51, 47, 108, 97, 119, 115, 46, 70, 110, 69, 120, 97, 99, 116, 86, 97, 108, 117, 101, 79, 102, 73, 110, 116, 101, 114, 108, 97, 99, 101].map Char.ofNat, [108, 111, 111, 112, 46, 101, 120, 97, 109, 112, 108, 101, 47, 103, 48, 49, 51, 48, 51, 47, 108, 97, 119, 115, 46, 70, 110, 69, 120, 97, 99, 116, 67, 111, 109, 109, 117, 116, 97, 116, 111, 114, 79, 102].map Char.ofNat, [108, 111, 111, 112, 46, 101, 120, 97, 109, 112, 108, 101, 47, 103, 48, 49, 51, 48, 51, 47, 108, 97, 119, 115, 46, 70, 110, 69, 120, 97, 99, 116, 76, 111, 103, 97, 114, 105, 116, 104, 109, 79, 102].map Char.ofNat, [108, 111, 111, 112, 46, 101, 120, 97, 109, 112, 108, 101, 47, 103, 48, 49, 51, 48, 51, 47, 108, 97, 119, 115, 46, 70, 110, 69, 120, 97, 99, 116, 69, 120, 112, 111, 110, 101, 110, 116, 105, 97, 108, 79, 102].map Char.ofNat]) := by kernel_rfl
theorem later : Try.prog.laysLater = false := by kernel_rfl
theorem reflects : Try.prog.bearsReflect = false := by kernel_rfl
theorem doors : Try.prog.doorRows = [] := by kernel_rfl
theorem make_ok : (Try.prog.make == some .cut) = true := by
  rw [Program.make]
  rw [words, behind]
  kernel_rfl
theorem mayEnter_ok : Try.prog.mayEnter = true := by
  rw [Program.mayEnter]
  rw [words, behind]
  simp only [strip, later, reflects]
  rw [Program.doorFits, doors]
  kernel_rfl
theorem liftsFinal_ok : (false == Try.prog.liftsFinal) = true := by
  rw [Program.liftsFinal, Program.headLifts]
  rw [words, behind]
  kernel_rfl
end Go.Proofs.Ytmeggliapebkgaa.Head
end
section
namespace Go.Proofs.Ytmeggliapebkgaa.fnExactThreeWebs
open Go.ChangeShapes Go.WideShapes Go.ChangeAt Go.RowKit
open Go.ChangeMaps (open_string shut_string)
set_option linter.unusedVariables false
theorem own : ownKnob Try.prog.godebug = none := by kernel_rfl
theorem laidOut : laidOutB Try.prog = true := by kernel_rfl
set_option maxRecDepth 100000 in
theorem lifted (os : Os) (started : os.Started) (H : Type) (enc : TypeId × Value → H) :
    ReturnsInHanded {} Try.checked os 3 .any (Rows.fnExactThreeWebsSpec.pre6 enc Try.prog Try.f3 Rows.fnExactThreeWebsRow.domain false) (Rows.fnExactThreeWebsSpec.post enc Try.prog Try.f3 false true false false) := by
  refine returnsInHanded_of_change_sized (C := Try.checked) own started (by kernel_rfl) Try.func3
    (ChangeSpec.witness6 (enc := enc) (C := Try.checked) false ⟨#[], #[.agg #[.slice none 0 0, .slice none 0 0], .int .i64 0], []⟩ 8 (by kernel_rfl) (by kernel_rfl) (by kernel_rfl) (by kernel_rfl)) ?_
  intro W base args ds gs before hval0 hW hcnd hsz0 _
  have hval : ∀ (j : Nat) t v, Try.f3.params[j]? = some t → args[j]? = some v → Value.okWide Try.prog W .any base t v := hval0
  have hW' := hW
  obtain ⟨p, q, hA0, hV, rfl, hfz, hnd⟩ := hW
  have hA : DataW.TrodAll enc Try.prog W 0 (fun _ => true) true Try.f3.params.toList args.toList ds p := hA0
  rw [Try.params3] at hA hval
  obtain ⟨v0, vs0, d0, ds0, p0, q0, hargs, rfl, rfl, h0, r0⟩ := trodAll_cons hA
  obtain ⟨v1, vs1, d1, ds1, p1, q1, rfl, rfl, rfl, h1, r1⟩ := trodAll_cons r0
  obtain ⟨rfl, rfl, rfl⟩ := trodAll_nil r1
  obtain rfl : args = #[v0, v1] := by cases args; simp_all
  obtain ⟨rfl, rfl⟩ := trodVars_none hV
  have k0 := h0
  have lt0 : ∀ x ∈ p0, x.block < W.heap.size := by obtain ⟨m, hm⟩ := k0; exact DataW.trod_lt m _ _ _ hm
  obtain ⟨A0_0, c0_0, l0_0, A0_1, c0_1, l0_1, rfl, hr0_0, hc0_0, hr0_1, hc0_1, m0_0, m0_1, w0_0, w0_1⟩ := Open.web_open Try.underlying25 rfl rfl (by kernel_rfl) (by kernel_rfl) Try.underlying23 Try.underlying22 Try.underlying2 (by kernel_rfl) (by kernel_rfl) (hval 0 25 v0 rfl rfl) h0
  obtain ⟨a1, rfl, rfl, rfl, w1⟩ := open_int Try.underlying2 (hval 1 2 v1 rfl rfl) h1
  clear hA0 hval0 hsz0
  have hk := Pure.FnExactThreeWebs l0_0 l0_1 m0_0 m0_1 w0_0 w0_1 a1 w1
  refine (F.laws_FnExactThreeWebs.calls _ _ l0_0 _ _ l0_1 a1 true W hr0_0 hc0_0 hr0_1 hc0_1 hk).mono fun e W' ⟨he, bel⟩ => ?_
  subst he
  exact ⟨_, rfl, _, _, _, [], _, [], hW', trodAll_mk1 (shut_bool Try.underlying4 _), (trodAll_cons_mk (Below.trod laidOut (by kernel_rfl) (of_decide_eq_true (by kernel_rfl)) k0 bel lt0) (trodAll_cons_mk (shut_int Try.underlying2 w1) trodAll_mk0)), rfl, bel.frame _, fun h => by cases h⟩
set_option maxHeartbeats 8000000 in
theorem closed : joinedFacts Try.pinned.checked.prog 3 Try.f3 Rows.fnExactThreeWebsSpec Rows.fnExactThreeWebsRow = true := by
  unfold joinedFacts
  refine Head.and_ok (Head.and_ok (Head.and_ok (Head.and_ok (Head.and_ok (Head.and_ok (Head.and_ok (Head.and_ok (Head.and_ok (Head.and_ok (Head.and_ok (Head.and_ok (Head.and_ok (Head.and_ok (Head.and_ok (Head.and_ok (Head.and_ok (Head.and_ok (Head.and_ok (Head.and_ok (Head.and_ok (Head.and_ok (Head.and_ok (Head.and_ok (Head.and_ok (Head.and_ok (Head.and_ok (Head.and_ok (Head.and_ok (Head.and_ok (Head.and_ok ?_ ?_) ?_) ?_) ?_) ?_) ?_) ?_) ?_) ?_) ?_) ?_) ?_) ?_) ?_) ?_) ?_) ?_) ?_) ?_) ?_) ?_) ?_) ?_) ?_) ?_) ?_) ?_) ?_) ?_) ?_) ?_
  · as_aux_lemma => kernel_rfl
  · as_aux_lemma => kernel_rfl
  · as_aux_lemma => kernel_rfl
  · as_aux_lemma => kernel_rfl
  · as_aux_lemma => kernel_rfl
  · as_aux_lemma => kernel_rfl
  · as_aux_lemma => kernel_rfl
  · as_aux_lemma => kernel_rfl
  · as_aux_lemma => kernel_rfl
  · as_aux_lemma => kernel_rfl
  · as_aux_lemma => kernel_rfl
  · as_aux_lemma => kernel_rfl
  · as_aux_lemma => kernel_rfl
  · as_aux_lemma => kernel_rfl
  · as_aux_lemma => kernel_rfl
  · as_aux_lemma => kernel_rfl
  · as_aux_lemma => kernel_rfl
  · as_aux_lemma => kernel_rfl
  · as_aux_lemma => kernel_rfl
  · as_aux_lemma => kernel_rfl
  · as_aux_lemma => kernel_rfl
  · as_aux_lemma => kernel_rfl
  · as_aux_lemma => kernel_rfl
  · as_aux_lemma => kernel_rfl
  · as_aux_lemma => kernel_rfl
  · exact Head.mayEnter_ok
  · exact Head.liftsFinal_ok
  · exact Head.make_ok
  · as_aux_lemma => kernel_rfl
  · as_aux_lemma => kernel_rfl
  · as_aux_lemma => kernel_rfl
  · as_aux_lemma => kernel_rfl
set_option maxHeartbeats 8000000 in
theorem over : Rows.fnExactThreeWebsRow.holds Try.pinned (OpenSpec.ofChange Rows.fnExactThreeWebsSpec) :=
  OpenClaim.holds_of_wide 3 Try.f3 rfl rfl rfl rfl rfl rfl rfl ⟨rfl, rfl, rfl, rfl, rfl⟩ rfl rfl rfl rfl rfl (by as_aux_lemma => kernel_rfl) Try.func3 closed
    (of_decide_eq_true (by as_aux_lemma => kernel_rfl)) (by unfold Func.isWrapper; first | (rw [if_pos (by decide +kernel)]; kernel_rfl) | (rw [if_neg (by decide +kernel)]; exact ⟨rfl, rfl⟩))
    (fun os started H enc _ => lifted os started H enc)
theorem proved : Rows.FnExactThreeWebsSaid := over
#print axioms proved
end Go.Proofs.Ytmeggliapebkgaa.fnExactThreeWebs
namespace Go.Proofs.Ytmeggliapebkgaa
theorem fnExactThreeWebs_holds : Rows.FnExactThreeWebsSaid := fnExactThreeWebs.proved
end Go.Proofs.Ytmeggliapebkgaa
end
