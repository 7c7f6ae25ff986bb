/- What spec_l10Sets answers, and that the Go text comes to it: for every world in which the arguments read as told. -/
import Derived.Test.YtfijnlbkflmkbaaFgA
namespace Go.Proofs.Ytfijnlbkflmkbaa.F
open Go.RowKit Go.Proofs.YtfijnlbkflmkbaaW.PrintWords Go.Proofs.YtfijnlbkflmkbaaW.PrintLast Go.Proofs.YtfijnlbkflmkbaaW.PrintMore
attribute [local go_sem] max2_int min2_int max_two min_two max_three min_three max_four min_four   -- for this text's walks alone
set_option linter.unusedVariables false
set_option linter.unusedSimpArgs false

/-! ### spec_l10Sets: function 121 -/
mutual
def spec_l10Sets.l0 : Nat → Int → Int → List (List Int) → List Int → Int → Option (List Int)
 | 0, _, _, _, _, _ => none
 | k + 1, x1, x5, x6, x7, x8 => if 0 ≤ (IntKind.u64.wrap (x5)) then (if x8 < (shl .i64 1 (IntKind.u64.wrap (x5))) then (spec_l10Sets.l1 k x1 x5 x6 x7 x8 true 0 0) else (some x7)) else (none)
def spec_l10Sets.l1 : Nat → Int → Int → List (List Int) → List Int → Int → Bool → Int → Int → Option (List Int)
 | 0, _, _, _, _, _, _, _, _ => none
 | k + 1, x1, x5, x6, x7, x8, x9, x10, x11 => if x11 < x5 then (if 0 ≤ (IntKind.u64.wrap (x11)) then (if (Go.bits .and .i64 (shr .i64 x8 (IntKind.u64.wrap (x11))) 1) = 0 then (spec_l10Sets.l1 k x1 x5 x6 x7 x8 x9 x10 (wrap64 (x11 + 1))) else (spec_l10Sets.l2 k x1 x5 x6 x7 x8 x9 (wrap64 (x10 + 1)) x11 0)) else (none)) else (if x9 = true then (if 0 ≤ x10 then (if x10 < (x7.length : Int) then (spec_l10Sets.l0 k x1 x5 x6 (x7.set (x10 : Int).toNat (wrap64 ((rd x7 x10) + 1))) (wrap64 (x8 + 1))) else (none)) else (none)) else (spec_l10Sets.l0 k x1 x5 x6 x7 (wrap64 (x8 + 1))))
def spec_l10Sets.l2 : Nat → Int → Int → List (List Int) → List Int → Int → Bool → Int → Int → Int → Option (List Int)
 | 0, _, _, _, _, _, _, _, _, _ => none
 | k + 1, x1, x5, x6, x7, x8, x9, x10, x11, x12 => if x12 < x11 then (if x9 = true then (if 0 ≤ (IntKind.u64.wrap (x12)) then (if (Go.bits .and .i64 (shr .i64 x8 (IntKind.u64.wrap (x12))) 1) = 0 then (spec_l10Sets.l2 k x1 x5 x6 x7 x8 true x10 x11 (wrap64 (x12 + 1))) else (if 0 ≤ x11 then (if x11 < (x6.length : Int) then (if 0 ≤ x12 then (if x12 < ((rd_L1 x6 x11).length : Int) then (spec_l10Sets.l2 k x1 x5 x6 x7 x8 ((rd (rd_L1 x6 x11) x12) == x1) x10 x11 (wrap64 (x12 + 1))) else (none)) else (none)) else (none)) else (none))) else (none)) else (spec_l10Sets.l2 k x1 x5 x6 x7 x8 false x10 x11 (wrap64 (x12 + 1)))) else (spec_l10Sets.l1 k x1 x5 x6 x7 x8 x9 x10 (wrap64 (x11 + 1)))
end
def spec_l10Sets.f (k : Nat) (l0 : List Int) (a1 : Int) : Option (List Int) := (spec_l01Cross.f k l0).bind fun t1211001 => (if 0 ≤ (wrap64 ((wrap64 ((l0.length : Int) / 2)) + 1)) then (if (wrap64 ((wrap64 ((l0.length : Int) / 2)) + 1) : Int).toNat ≤ 35184372088832 then (spec_l10Sets.l0 k a1 (wrap64 ((l0.length : Int) / 2)) t1211001 (List.replicate (wrap64 ((wrap64 ((l0.length : Int) / 2)) + 1) : Int).toNat 0) 0) else (none)) else (none))
theorem spec_l10Sets.mono_l : ∀ k, (∀ y0 y1 y2 y3 y4, LeO (spec_l10Sets.l0 k y0 y1 y2 y3 y4) (spec_l10Sets.l0 (k + 1) y0 y1 y2 y3 y4)) ∧ (∀ y0 y1 y2 y3 y4 y5 y6 y7, LeO (spec_l10Sets.l1 k y0 y1 y2 y3 y4 y5 y6 y7) (spec_l10Sets.l1 (k + 1) y0 y1 y2 y3 y4 y5 y6 y7)) ∧ (∀ y0 y1 y2 y3 y4 y5 y6 y7 y8, LeO (spec_l10Sets.l2 k y0 y1 y2 y3 y4 y5 y6 y7 y8) (spec_l10Sets.l2 (k + 1) y0 y1 y2 y3 y4 y5 y6 y7 y8))
 | 0 => ⟨fun _ _ _ _ _ r h => by simp [spec_l10Sets.l0] at h, fun _ _ _ _ _ _ _ _ r h => by simp [spec_l10Sets.l1] at h, fun _ _ _ _ _ _ _ _ _ r h => by simp [spec_l10Sets.l2] at h⟩
 | k + 1 => by
  obtain ⟨ih0, ih1, ih2⟩ := spec_l10Sets.mono_l k
  refine ⟨?_, ?_, ?_⟩
  ·intro y0 y1 y2 y3 y4
   unfold spec_l10Sets.l0
   repeat' first
   | (with_reducible exact ih0 _ _ _ _ _)
   | (with_reducible exact ih1 _ _ _ _ _ _ _ _)
   | (with_reducible exact ih2 _ _ _ _ _ _ _ _ _)
   | (with_reducible exact spec_l01Cross.mono _ _)
   | (with_reducible exact LeO.refl _)
   | (with_reducible exact LeO.none _)
   | (with_reducible refine LeO.ite ?_ ?_)
   | (with_reducible refine LeO.bind ?_ (fun _ => ?_))
   | exact ih0 _ _ _ _ _
   | exact ih1 _ _ _ _ _ _ _ _
   | exact ih2 _ _ _ _ _ _ _ _ _
   | exact spec_l01Cross.mono _ _
   | exact LeO.none _
   | refine LeO.ite ?_ ?_
   | refine LeO.bind ?_ (fun _ => ?_)
  ·intro y0 y1 y2 y3 y4 y5 y6 y7
   unfold spec_l10Sets.l1
   repeat' first
   | (with_reducible exact ih0 _ _ _ _ _)
   | (with_reducible exact ih1 _ _ _ _ _ _ _ _)
   | (with_reducible exact ih2 _ _ _ _ _ _ _ _ _)
   | (with_reducible exact spec_l01Cross.mono _ _)
   | (with_reducible exact LeO.refl _)
   | (with_reducible exact LeO.none _)
   | (with_reducible refine LeO.ite ?_ ?_)
   | (with_reducible refine LeO.bind ?_ (fun _ => ?_))
   | exact ih0 _ _ _ _ _
   | exact ih1 _ _ _ _ _ _ _ _
   | exact ih2 _ _ _ _ _ _ _ _ _
   | exact spec_l01Cross.mono _ _
   | exact LeO.none _
   | refine LeO.ite ?_ ?_
   | refine LeO.bind ?_ (fun _ => ?_)
  ·intro y0 y1 y2 y3 y4 y5 y6 y7 y8
   unfold spec_l10Sets.l2
   repeat' first
   | (with_reducible exact ih0 _ _ _ _ _)
   | (with_reducible exact ih1 _ _ _ _ _ _ _ _)
   | (with_reducible exact ih2 _ _ _ _ _ _ _ _ _)
   | (with_reducible exact spec_l01Cross.mono _ _)
   | (with_reducible exact LeO.refl _)
   | (with_reducible exact LeO.none _)
   | (with_reducible refine LeO.ite ?_ ?_)
   | (with_reducible refine LeO.bind ?_ (fun _ => ?_))
   | exact ih0 _ _ _ _ _
   | exact ih1 _ _ _ _ _ _ _ _
   | exact ih2 _ _ _ _ _ _ _ _ _
   | exact spec_l01Cross.mono _ _
   | exact LeO.none _
   | refine LeO.ite ?_ ?_
   | refine LeO.bind ?_ (fun _ => ?_)
theorem spec_l10Sets.mono : ∀ a0 a1 k, LeO (spec_l10Sets.f k a0 a1) (spec_l10Sets.f (k + 1) a0 a1) := by
 intro a0 a1 k
 obtain ⟨ih0, ih1, ih2⟩ := spec_l10Sets.mono_l k
 unfold spec_l10Sets.f
 repeat' first
   | (with_reducible exact ih0 _ _ _ _ _)
   | (with_reducible exact ih1 _ _ _ _ _ _ _ _)
   | (with_reducible exact ih2 _ _ _ _ _ _ _ _ _)
   | (with_reducible exact spec_l01Cross.mono _ _)
   | (with_reducible exact LeO.refl _)
   | (with_reducible exact LeO.none _)
   | (with_reducible refine LeO.ite ?_ ?_)
   | (with_reducible refine LeO.bind ?_ (fun _ => ?_))
   | exact ih0 _ _ _ _ _
   | exact ih1 _ _ _ _ _ _ _ _
   | exact ih2 _ _ _ _ _ _ _ _ _
   | exact spec_l01Cross.mono _ _
   | exact LeO.none _
   | refine LeO.ite ?_ ?_
   | refine LeO.bind ?_ (fun _ => ?_)
set_option maxHeartbeats 8000000 in
set_option maxRecDepth 100000 in
theorem spec_l10Sets.calls (k : Nat) (A0 : Option Addr) (c0 : Nat) (l0 : List Int) (a1 : Int) (r : List Int) (w : World) (hr0 : Kd.C (Kd.int .i64) w A0 l0.length l0) (hc0 : l0.length ≤ c0) (h : spec_l10Sets.f k l0 a1 = some r) :
  Calls Try.prog 121 #[.slice A0 l0.length c0, .int .i64 a1] w fun e w' => ∃ v0_ : Value, e = .returned (v0_) ∧ Kd.R (Kd.int .i64) 2 w' w.heap.size (fun _ => True) v0_ r ∧ Below w.heap.size w w' := by
 have HR0 := Aside0.mk hr0
 have HC0 := Aside0.mk hc0
 clear hr0 hc0
 have HB := Aside0.mk (Below.refl w.heap.size w)
 have H : ((spec_l01Cross.f k l0).bind fun t1211001 => (if 0 ≤ (wrap64 ((wrap64 ((l0.length : Int) / 2)) + 1)) then (if (wrap64 ((wrap64 ((l0.length : Int) / 2)) + 1) : Int).toNat ≤ 35184372088832 then (spec_l10Sets.l0 k a1 (wrap64 ((l0.length : Int) / 2)) t1211001 (List.replicate (wrap64 ((wrap64 ((l0.length : Int) / 2)) + 1) : Int).toNat 0) 0) else (none)) else (none))) = some r := h
 clear h
 replace H := Option.bind_eq_some_iff.mp H
 obtain ⟨t1211001, A30, H⟩ := H
 replace H : (if 0 ≤ (wrap64 ((wrap64 ((l0.length : Int) / 2)) + 1)) then (if (wrap64 ((wrap64 ((l0.length : Int) / 2)) + 1) : Int).toNat ≤ 35184372088832 then (spec_l10Sets.l0 k a1 (wrap64 ((l0.length : Int) / 2)) t1211001 (List.replicate (wrap64 ((wrap64 ((l0.length : Int) / 2)) + 1) : Int).toNat 0) 0) else (none)) else (none)) = some r := H
 have A3 := Aside0.mk A30
 clear A30
 obtain ⟨ji4, hji4⟩ : ∃ j_ : Int, (wrap64 ((wrap64 ((l0.length : Int) / 2)) + 1)) = j_ := ⟨_, rfl⟩
 replace H : (if 0 ≤ (ji4) then (if (ji4 : Int).toNat ≤ 35184372088832 then (spec_l10Sets.l0 k a1 (wrap64 ((l0.length : Int) / 2)) t1211001 (List.replicate (ji4 : Int).toNat 0) 0) else (none)) else (none)) = some r := by first | (rw [hji4] at H; exact H) | (simp only [hji4] at H ⊢; exact H)
 (try rw [hji4] at A3)
 have hji4w : (IntKind.i64.wrap ((wrap64 ((l0.length : Int) / 2)) + 1)) = ji4 := (i64_w _).trans hji4
 by_cases c5 : 0 ≤ (ji4)
 ·rw [if_pos c5] at H
  have c5b0 := eq_true c5
  have c5b1 : decide (0 ≤ (ji4)) = true := decide_eq_true c5
  clear c5
  by_cases c6 : (ji4 : Int).toNat ≤ 35184372088832
  ·rw [if_pos c6] at H
   have c6b0 := eq_true c6
   have c6b1 : decide ((ji4 : Int).toNat ≤ 35184372088832) = true := decide_eq_true c6
   clear c6
   obtain ⟨y1211004, hy1211004⟩ : ∃ y_ : List Int, y_ = (List.replicate (ji4 : Int).toNat 0) := ⟨_, rfl⟩
   replace H : (spec_l10Sets.l0 k a1 (wrap64 ((l0.length : Int) / 2)) t1211001 y1211004 0) = some r := by first | (rw [hy1211004]; with_reducible exact H) | (have H2_ := (Option.bind_some _ _).symm.trans H; rw [hy1211004]; with_reducible exact H2_) | (have H2_ := (Option.bind_some _ _).symm.trans H; with_reducible exact H2_) | with_reducible exact H | (rw [hy1211004]; exact H) | exact H
   have Ny1211004 := Aside0.mk hy1211004
   clear hy1211004
   have H' := Aside0.mk H
   clear H
   go_enter Try.func121, Try.ntmps121
   go_wp2_with (first | ((with_reducible refine gate_callee (f := 90) rfl ?_); refine goesL_ (some 17) rfl rfl Try.func90 (by kernel_rfl) rfl #[.slice A0 l0.length c0] rfl (by (try simp only [List.map_toArray, List.map_cons, List.map_nil]); first | done | rfl | (simp only [List.length_drop, List.length_take]; rfl)) ?_; (with_reducible refine (spec_l01Cross.calls k _ _ l0 t1211001 _ ?side1 ?side2 A3.out).mono ?_); (case side1 => repeat (first | exact HR0.out | (with_reducible refine Kd.C_alloc ?_ _) | (with_reducible refine Kd.C_drewN ?_ _) | (with_reducible refine Kd.C_drew ?_))); (case side2 => exact HC0.out); rintro e w7 ⟨v1211002, rfl, ho0, hb⟩; refine ⟨_, rfl, ?_⟩; have n0_ := Aside0.mk (Kd.S_lower ho0 (below_size (by repeat (first | (with_reducible first | exact HB.out | apply below_alloc | apply pw_below_drewN | apply below_drew1) | exact HB.out)))); have n1_ := Aside0.mk (below_step (by repeat (first | (with_reducible first | exact HB.out | apply below_alloc | apply pw_below_drewN | apply below_drew1) | exact HB.out)) hb); clear HB; have HO1211003 := n0_; have HB := n1_; clear n0_ n1_; (try clear hb); (try clear hb2); (try clear hk); (try clear hi); (try clear ho0)) | ((with_reducible refine gate_dst (N := 20) rfl ?_); refine Kd.R_make (Kd.int .i64) _ 2 rfl (N := 20) rfl 22 _ _ rfl ji4 rfl rfl Try.underlying22 (.int .i64 0) 8 info2 rfl (by decide) (by omega) 0 (ok := fun _ => True) (okp := fun _ => True) rfl (fun _ hk => hk) trivial (of_decide_eq_true (by first | (with_reducible assumption) | assumption)) (Nat.le_trans (Nat.mul_le_mul_right _ (of_decide_eq_true (by first | (with_reducible assumption) | assumption) : ji4.toNat ≤ 35184372088832)) (by omega)) (Below.refl _ _) (Nat.le_refl _) ?_; intro v1211005 w8 ho9 hb hg_ hnew_; clear hg_ hnew_; (first | rw [← Ny1211004.out] at ho9 | (simp only [Int.reduceToNat] at ho9; rw [← Ny1211004.out] at ho9)); have n0_ := Aside0.mk (Kd.S_elder' (by (with_reducible repeat (first | apply Kd.S_alloc | apply Kd.S_drewN | apply Kd.S_drew)); exact HO1211003.out) (Kd.R_base ho9) hb); have n1_ := Aside0.mk (Kd.R_lower ho9 (below_size (by repeat (first | (with_reducible first | exact HB.out | apply below_alloc | apply pw_below_drewN | apply below_drew1) | exact HB.out)))); have n2_ := Aside0.mk (below_step (by repeat (first | (with_reducible first | exact HB.out | apply below_alloc | apply pw_below_drewN | apply below_drew1) | exact HB.out)) hb); clear HO1211003; clear HB; have HO1211003 := n0_; have HO1211006 := n1_; have HB := n2_; clear n0_ n1_ n2_; clear hb ho9))
   go_loopg [8] k (fun kq v8 w' => ∃ (x7_1 : List Int) (x8_1 : Int), v8 = .int .i64 x8_1 ∧ Aside0 (spec_l10Sets.l0 kq a1 (wrap64 ((l0.length : Int) / 2)) t1211001 x7_1 x8_1 = some r) ∧ Aside0 (kq ≤ k) ∧ Aside0 (Kd.S (Kd.slice 2 (Kd.int .i64)) 22 w' w.heap.size (fun k_ => some k_ ≠ (v1211005 : Value).ownBlock) v1211002 t1211001) ∧ Aside0 (Kd.R (Kd.int .i64) 2 w' w.heap.size (fun _ => True) v1211005 x7_1) ∧ Aside0 (Below w.heap.size w w'))
   case atStart => exact ⟨(y1211004), (0), (by first | rfl | (simp; done) | (simp [*]; done)), H', ⟨Nat.le_refl _⟩, ⟨by (with_reducible repeat (first | apply Kd.S_alloc | apply Kd.S_drewN | apply Kd.S_drew)); exact Kd.S_mono HO1211003.out (fun _ hk => hk.2)⟩, ⟨by (with_reducible repeat (first | apply Kd.R_alloc | apply Kd.R_drewN | apply Kd.R_drew)); exact HO1211006.out⟩, ⟨by repeat (first | (with_reducible first | exact HB.out | apply below_alloc | apply pw_below_drewN | apply below_drew1) | exact HB.out)⟩⟩
   case round =>
    clear H'
    try clear c1
    try clear p2
    try clear c5
    try clear c5b0
    try clear c5b1
    try clear c6
    try clear c6b0
    try clear c6b1
    try clear p6
    try clear c9
    obtain ⟨x7_1, x8_1, rfl, HA, HK1, HO_6, HO_7, HB⟩ := hrel
    cases gk with
    | zero => exact absurd HA.out (by simp [spec_l10Sets.l0])
    | succ k1 =>
     have H := HA.out
     clear HA
     simp only [spec_l10Sets.l0] at H
     obtain ⟨ji10, hji10⟩ : ∃ j_ : Int, (IntKind.u64.wrap ((wrap64 ((l0.length : Int) / 2)))) = j_ := ⟨_, rfl⟩
     replace H : (if 0 ≤ (ji10) then (if x8_1 < (shl .i64 1 (ji10)) then (spec_l10Sets.l1 k1 a1 (wrap64 ((l0.length : Int) / 2)) t1211001 x7_1 x8_1 true 0 0) else (some x7_1)) else (none)) = some r := by first | (rw [hji10] at H; exact H) | (simp only [hji10] at H ⊢; exact H)
     by_cases c11 : 0 ≤ (ji10)
     ·rw [if_pos c11] at H
      have c11b0 := eq_true c11
      have c11b1 : decide (0 ≤ (ji10)) = true := decide_eq_true c11
      clear c11
      obtain ⟨ji12, hji12⟩ : ∃ j_ : Int, (shl .i64 1 (ji10)) = j_ := ⟨_, rfl⟩
      replace H : (if x8_1 < (ji12) then (spec_l10Sets.l1 k1 a1 (wrap64 ((l0.length : Int) / 2)) t1211001 x7_1 x8_1 true 0 0) else (some x7_1)) = some r := by first | (rw [hji12] at H; exact H) | (simp only [hji12] at H ⊢; exact H)
      have hji12_ : (IntKind.i64.wrap (1 * 2 ^ min (ji10).toNat 64)) = ji12 := hji12
      have hji12z : (ji10) ≤ 64 → (IntKind.i64.wrap (1 * 2 ^ (ji10).toNat)) = ji12 := shl_small hji12
      have hji12u : (IntKind.i64.wrap (2 ^ min (ji10).toNat 64)) = ji12 := by have h_ := hji12_; rw [Int.one_mul] at h_; exact h_
      have hji12v : (ji10) ≤ 64 → (IntKind.i64.wrap (2 ^ (ji10).toNat)) = ji12 := fun hle_ => by have h_ := hji12z hle_; rw [Int.one_mul] at h_; exact h_
      have hji12y : (wrap64 (1 * 2 ^ min (ji10).toNat 64)) = ji12 := (i64_w _).symm.trans hji12_
      have hji12x : (ji10) ≤ 64 → (wrap64 (1 * 2 ^ (ji10).toNat)) = ji12 := fun h_ => (i64_w _).symm.trans (hji12z h_)
      by_cases c13 : x8_1 < (ji12)
      ·rw [if_pos c13] at H
       have c13b0 : decide (x8_1 < (ji12)) = true := decide_eq_true c13
       clear c13
       have H' := Aside0.mk H
       clear H
       go_wp2
       go_loopg [9, 10, 11] k1 (fun kq v9 v10 v11 w' => ∃ (x9_2 : Bool) (x10_2 : Int) (x11_2 : Int), v9 = .bool x9_2 ∧ v10 = .int .i64 x10_2 ∧ v11 = .int .i64 x11_2 ∧ Aside0 (spec_l10Sets.l1 kq a1 (wrap64 ((l0.length : Int) / 2)) t1211001 x7_1 x8_1 x9_2 x10_2 x11_2 = some r) ∧ Aside0 (kq ≤ k1) ∧ Aside0 (Kd.S (Kd.slice 2 (Kd.int .i64)) 22 w' w.heap.size (fun k_ => some k_ ≠ (v1211005 : Value).ownBlock) v1211002 t1211001) ∧ Aside0 (Kd.R (Kd.int .i64) 2 w' w.heap.size (fun _ => True) v1211005 x7_1) ∧ Aside0 (Below w.heap.size w w'))
       case atStart => exact ⟨(true), (0), (0), (by first | rfl | (simp; done) | (simp [*]; done)), (by first | rfl | (simp; done) | (simp [*]; done)), (by first | rfl | (simp; done) | (simp [*]; done)), H', ⟨Nat.le_refl _⟩, ⟨by (with_reducible repeat (first | apply Kd.S_alloc | apply Kd.S_drewN | apply Kd.S_drew)); exact HO_6.out⟩, ⟨by (with_reducible repeat (first | apply Kd.R_alloc | apply Kd.R_drewN | apply Kd.R_drew)); exact HO_7.out⟩, ⟨by repeat (first | (with_reducible first | exact HB.out | apply below_alloc | apply pw_below_drewN | apply below_drew1) | exact HB.out)⟩⟩
       case round =>
        clear H'
        try clear c1
        try clear p2
        try clear c5
        try clear c5b0
        try clear c5b1
        try clear c6
        try clear c6b0
        try clear c6b1
        try clear p6
        try clear c9
        try clear c11
        try clear c11b0
        try clear c11b1
        try clear c12
        try clear c13
        try clear c13b0
        try clear p2
        try clear p6
        obtain ⟨x9_2, x10_2, x11_2, rfl, rfl, rfl, HA, HK2, HO_6, HO_7, HB⟩ := hrel
        cases gk with
        | zero => exact absurd HA.out (by simp [spec_l10Sets.l1])
        | succ k2 =>
         have H := HA.out
         clear HA
         simp only [spec_l10Sets.l1] at H
         by_cases c14 : x11_2 < (wrap64 ((l0.length : Int) / 2))
         ·rw [if_pos c14] at H
          have c14b0 : decide (x11_2 < (wrap64 ((l0.length : Int) / 2))) = true := decide_eq_true c14
          clear c14
          obtain ⟨ji15, hji15⟩ : ∃ j_ : Int, (IntKind.u64.wrap (x11_2)) = j_ := ⟨_, rfl⟩
          replace H : (if 0 ≤ (ji15) then (if (Go.bits .and .i64 (shr .i64 x8_1 (ji15)) 1) = 0 then (spec_l10Sets.l1 k2 a1 (wrap64 ((l0.length : Int) / 2)) t1211001 x7_1 x8_1 x9_2 x10_2 (wrap64 (x11_2 + 1))) else (spec_l10Sets.l2 k2 a1 (wrap64 ((l0.length : Int) / 2)) t1211001 x7_1 x8_1 x9_2 (wrap64 (x10_2 + 1)) x11_2 0)) else (none)) = some r := by first | (rw [hji15] at H; exact H) | (simp only [hji15] at H ⊢; exact H)
          by_cases c16 : 0 ≤ (ji15)
          ·rw [if_pos c16] at H
           have c16b0 := eq_true c16
           have c16b1 : decide (0 ≤ (ji15)) = true := decide_eq_true c16
           clear c16
           obtain ⟨ji17, hji17⟩ : ∃ j_ : Int, (shr .i64 x8_1 (ji15)) = j_ := ⟨_, rfl⟩
           replace H : (if (Go.bits .and .i64 (ji17) 1) = 0 then (spec_l10Sets.l1 k2 a1 (wrap64 ((l0.length : Int) / 2)) t1211001 x7_1 x8_1 x9_2 x10_2 (wrap64 (x11_2 + 1))) else (spec_l10Sets.l2 k2 a1 (wrap64 ((l0.length : Int) / 2)) t1211001 x7_1 x8_1 x9_2 (wrap64 (x10_2 + 1)) x11_2 0)) = some r := by first | (rw [hji17] at H; exact H) | (simp only [hji17] at H ⊢; exact H)
           have hji17_ : (x8_1 / 2 ^ min (ji15).toNat 64) = ji17 := hji17
           have hji17z : (ji15) ≤ 64 → (x8_1 / 2 ^ (ji15).toNat) = ji17 := shr_small hji17
           by_cases c18 : (Go.bits .and .i64 (ji17) 1) = 0
           ·rw [if_pos c18] at H
            have c18b0 : ((Go.bits .and .i64 (ji17) 1) == 0) = true := beq_iff_eq.mpr c18
            have c18b1 : ((Go.bits .and .i64 (ji17) 1) != 0) = false := bne_eq_false_iff_eq.mpr c18
            clear c18
            have H' := Aside0.mk H
            clear H
            go_wp2
            go_roundg k2
            case measure => have := HK1.out; have := HK2.out; omega
            case rel => exact ⟨(x9_2), (x10_2), (wrap64 (x11_2 + 1)), (by first | rfl | (simp; done) | (simp [*]; done)), (by first | rfl | (simp; done) | (simp [*]; done)), (by first | rfl | (simp; done) | (simp [*]; done)), H', ⟨by have := HK1.out; have := HK2.out; omega⟩, ⟨by (with_reducible repeat (first | apply Kd.S_alloc | apply Kd.S_drewN | apply Kd.S_drew)); exact HO_6.out⟩, ⟨by (with_reducible repeat (first | apply Kd.R_alloc | apply Kd.R_drewN | apply Kd.R_drew)); exact HO_7.out⟩, ⟨by repeat (first | (with_reducible first | exact HB.out | apply below_alloc | apply pw_below_drewN | apply below_drew1) | exact HB.out)⟩⟩
           ·rw [if_neg c18] at H
            have c18b0 : ((Go.bits .and .i64 (ji17) 1) == 0) = false := beq_eq_false_iff_ne.mpr c18
            have c18b1 : ((Go.bits .and .i64 (ji17) 1) != 0) = true := bne_iff_ne.mpr c18
            have H' := Aside0.mk H
            clear H
            go_wp2
            go_loopg [9, 12] k2 (fun kq v9 v12 w' => ∃ (x9_3 : Bool) (x12_3 : Int), v9 = .bool x9_3 ∧ v12 = .int .i64 x12_3 ∧ Aside0 (spec_l10Sets.l2 kq a1 (wrap64 ((l0.length : Int) / 2)) t1211001 x7_1 x8_1 x9_3 (wrap64 (x10_2 + 1)) x11_2 x12_3 = some r) ∧ Aside0 (kq ≤ k2) ∧ Aside0 (Kd.S (Kd.slice 2 (Kd.int .i64)) 22 w' w.heap.size (fun k_ => some k_ ≠ (v1211005 : Value).ownBlock) v1211002 t1211001) ∧ Aside0 (Kd.R (Kd.int .i64) 2 w' w.heap.size (fun _ => True) v1211005 x7_1) ∧ Aside0 (Below w.heap.size w w'))
            case atStart => exact ⟨(x9_2), (0), (by first | rfl | (simp; done) | (simp [*]; done)), (by first | rfl | (simp; done) | (simp [*]; done)), H', ⟨Nat.le_refl _⟩, ⟨by (with_reducible repeat (first | apply Kd.S_alloc | apply Kd.S_drewN | apply Kd.S_drew)); exact HO_6.out⟩, ⟨by (with_reducible repeat (first | apply Kd.R_alloc | apply Kd.R_drewN | apply Kd.R_drew)); exact HO_7.out⟩, ⟨by repeat (first | (with_reducible first | exact HB.out | apply below_alloc | apply pw_below_drewN | apply below_drew1) | exact HB.out)⟩⟩
            case round =>
             clear H'
             try clear c1
             try clear p2
             try clear c5
             try clear c5b0
             try clear c5b1
             try clear c6
             try clear c6b0
             try clear c6b1
             try clear p6
             try clear c9
             try clear c11
             try clear c11b0
             try clear c11b1
             try clear c12
             try clear c13
             try clear c13b0
             try clear c14
             try clear c14b0
             try clear c16
             try clear c16b0
             try clear c16b1
             try clear c18
             try clear c18b0
             try clear c18b1
             try clear p2
             try clear p6
             obtain ⟨x9_3, x12_3, rfl, rfl, HA, HK3, HO_6, HO_7, HB⟩ := hrel
             cases gk with
             | zero => exact absurd HA.out (by simp [spec_l10Sets.l2])
             | succ k3 =>
              have H := HA.out
              clear HA
              simp only [spec_l10Sets.l2] at H
              by_cases c19 : x12_3 < x11_2
              ·rw [if_pos c19] at H
               have c19b0 : decide (x12_3 < x11_2) = true := decide_eq_true c19
               clear c19
               by_cases c20 : x9_3 = true
               ·subst c20
                have H1 : (if 0 ≤ (IntKind.u64.wrap (x12_3)) then (if (Go.bits .and .i64 (shr .i64 x8_1 (IntKind.u64.wrap (x12_3))) 1) = 0 then (spec_l10Sets.l2 k3 a1 (wrap64 ((l0.length : Int) / 2)) t1211001 x7_1 x8_1 true (wrap64 (x10_2 + 1)) x11_2 (wrap64 (x12_3 + 1))) else (if 0 ≤ x11_2 then (if x11_2 < (t1211001.length : Int) then (if 0 ≤ x12_3 then (if x12_3 < ((rd_L1 t1211001 x11_2).length : Int) then (spec_l10Sets.l2 k3 a1 (wrap64 ((l0.length : Int) / 2)) t1211001 x7_1 x8_1 ((rd (rd_L1 t1211001 x11_2) x12_3) == a1) (wrap64 (x10_2 + 1)) x11_2 (wrap64 (x12_3 + 1))) else (none)) else (none)) else (none)) else (none))) else (none)) = some r := by rw [if_pos rfl] at H; exact H
                clear H
                have H := H1
                clear H1
                obtain ⟨ji21, hji21⟩ : ∃ j_ : Int, (IntKind.u64.wrap (x12_3)) = j_ := ⟨_, rfl⟩
                replace H : (if 0 ≤ (ji21) then (if (Go.bits .and .i64 (shr .i64 x8_1 (ji21)) 1) = 0 then (spec_l10Sets.l2 k3 a1 (wrap64 ((l0.length : Int) / 2)) t1211001 x7_1 x8_1 true (wrap64 (x10_2 + 1)) x11_2 (wrap64 (x12_3 + 1))) else (if 0 ≤ x11_2 then (if x11_2 < (t1211001.length : Int) then (if 0 ≤ x12_3 then (if x12_3 < ((rd_L1 t1211001 x11_2).length : Int) then (spec_l10Sets.l2 k3 a1 (wrap64 ((l0.length : Int) / 2)) t1211001 x7_1 x8_1 ((rd (rd_L1 t1211001 x11_2) x12_3) == a1) (wrap64 (x10_2 + 1)) x11_2 (wrap64 (x12_3 + 1))) else (none)) else (none)) else (none)) else (none))) else (none)) = some r := by first | (rw [hji21] at H; exact H) | (simp only [hji21] at H ⊢; exact H)
                by_cases c22 : 0 ≤ (ji21)
                ·rw [if_pos c22] at H
                 have c22b0 := eq_true c22
                 have c22b1 : decide (0 ≤ (ji21)) = true := decide_eq_true c22
                 clear c22
                 obtain ⟨ji23, hji23⟩ : ∃ j_ : Int, (shr .i64 x8_1 (ji21)) = j_ := ⟨_, rfl⟩
                 replace H : (if (Go.bits .and .i64 (ji23) 1) = 0 then (spec_l10Sets.l2 k3 a1 (wrap64 ((l0.length : Int) / 2)) t1211001 x7_1 x8_1 true (wrap64 (x10_2 + 1)) x11_2 (wrap64 (x12_3 + 1))) else (if 0 ≤ x11_2 then (if x11_2 < (t1211001.length : Int) then (if 0 ≤ x12_3 then (if x12_3 < ((rd_L1 t1211001 x11_2).length : Int) then (spec_l10Sets.l2 k3 a1 (wrap64 ((l0.length : Int) / 2)) t1211001 x7_1 x8_1 ((rd (rd_L1 t1211001 x11_2) x12_3) == a1) (wrap64 (x10_2 + 1)) x11_2 (wrap64 (x12_3 + 1))) else (none)) else (none)) else (none)) else (none))) = some r := by first | (rw [hji23] at H; exact H) | (simp only [hji23] at H ⊢; exact H)
                 have hji23_ : (x8_1 / 2 ^ min (ji21).toNat 64) = ji23 := hji23
                 have hji23z : (ji21) ≤ 64 → (x8_1 / 2 ^ (ji21).toNat) = ji23 := shr_small hji23
                 by_cases c24 : (Go.bits .and .i64 (ji23) 1) = 0
                 ·rw [if_pos c24] at H
                  have c24b0 : ((Go.bits .and .i64 (ji23) 1) == 0) = true := beq_iff_eq.mpr c24
                  have c24b1 : ((Go.bits .and .i64 (ji23) 1) != 0) = false := bne_eq_false_iff_eq.mpr c24
                  clear c24
                  have H' := Aside0.mk H
                  clear H
                  go_wp2
                  go_roundg k3
                  case measure => have := HK1.out; have := HK2.out; have := HK3.out; omega
                  case rel => exact ⟨(true), (wrap64 (x12_3 + 1)), (by first | rfl | (simp; done) | (simp [*]; done)), (by first | rfl | (simp; done) | (simp [*]; done)), H', ⟨by have := HK1.out; have := HK2.out; have := HK3.out; omega⟩, ⟨by (with_reducible repeat (first | apply Kd.S_alloc | apply Kd.S_drewN | apply Kd.S_drew)); exact HO_6.out⟩, ⟨by (with_reducible repeat (first | apply Kd.R_alloc | apply Kd.R_drewN | apply Kd.R_drew)); exact HO_7.out⟩, ⟨by repeat (first | (with_reducible first | exact HB.out | apply below_alloc | apply pw_below_drewN | apply below_drew1) | exact HB.out)⟩⟩
                 ·rw [if_neg c24] at H
                  have c24b0 : ((Go.bits .and .i64 (ji23) 1) == 0) = false := beq_eq_false_iff_ne.mpr c24
                  have c24b1 : ((Go.bits .and .i64 (ji23) 1) != 0) = true := bne_iff_ne.mpr c24
                  by_cases c25 : 0 ≤ x11_2
                  ·rw [if_pos c25] at H
                   have c25b0 : decide (0 ≤ x11_2) = true := decide_eq_true c25
                   clear c25
                   by_cases c26 : x11_2 < (t1211001.length : Int)
                   ·rw [if_pos c26] at H
                    have c26b0 : decide (x11_2 < (t1211001.length : Int)) = true := decide_eq_true c26
                    clear c26
                    by_cases c27 : 0 ≤ x12_3
                    ·rw [if_pos c27] at H
                     have c27b0 : decide (0 ≤ x12_3) = true := decide_eq_true c27
                     clear c27
                     by_cases c28 : x12_3 < ((rd_L1 t1211001 x11_2).length : Int)
                     ·rw [if_pos c28] at H
                      have c28b0 : decide (x12_3 < ((rd_L1 t1211001 x11_2).length : Int)) = true := decide_eq_true c28
                      clear c28
                      have H' := Aside0.mk H
                      clear H
                      obtain ⟨Ao29, co29, eo29⟩ := Kd.S_slice HO_6.out
                      subst eo29
                      have p1211009 : 0 ≤ (x11_2 : Int) := of_decide_eq_true (by first | (with_reducible assumption) | assumption)
                      have q1211009 : x11_2 < (t1211001.length : Int) := of_decide_eq_true (by first | (with_reducible assumption) | assumption)
                      obtain ⟨ad1211009, A1211009_0, c1211009_0, e1211009, hx1211009_0, hl1211009_0, hi1211009_0⟩ := at_L1 (Kd.S_reads' HO_6.out).2.2 x11_2 p1211009 q1211009
                      cases e1211009
                      obtain ⟨ce1211009, hce1211009, hMe1211009, hcc1211009⟩ := Kd.S_get HO_6.out [] x11_2 p1211009 (by first | exact q1211009 | exact of_decide_eq_true (by first | (with_reducible assumption) | assumption) | (have e_ := (Kd.S_reads' HO_6.out).1; omega))
                      obtain ⟨ve1211009_0, rfl, ge1211009_0⟩ := hMe1211009
                      have hv1211009_0 := hcc1211009 0 _ rfl
                      rw [Nat.add_zero, show ((Kd.slice 2 (Kd.int .i64))).sz = 1 from rfl, Nat.mul_one] at hv1211009_0
                      replace hv1211009_0 := Option.some.inj (hv1211009_0.symm.trans hx1211009_0)
                      rw [hv1211009_0] at ge1211009_0
                      have HL1211009_0 := Aside0.mk (show Kd.R (Kd.int .i64) 2 _ _ _ _ (rd_L1 t1211001 x11_2) from ge1211009_0)
                      clear hv1211009_0 ge1211009_0
                      clear hcc1211009 hce1211009
                      have HR1211009_0 := Aside0.mk hi1211009_0
                      have HC1211009_0 := Aside0.mk hl1211009_0
                      clear hi1211009_0 hl1211009_0
                      replace p1211009 := eq_true p1211009
                      replace q1211009 := eq_true q1211009
                      have p1211010 : 0 ≤ (x12_3 : Int) := of_decide_eq_true (by first | (with_reducible assumption) | assumption)
                      have q1211010 : x12_3 < ((rd_L1 t1211001 x11_2).length : Int) := of_decide_eq_true (by first | (with_reducible assumption) | assumption)
                      obtain ⟨ad1211010, e1211010, hx1211010_0⟩ := Kd.at_int (by repeat (first | (with_reducible exact HR1211009_0.out) | (with_reducible refine Kd.C_alloc ?_ _) | (with_reducible refine Kd.C_drewN ?_ _) | (with_reducible refine Kd.C_drew ?_) | exact HR1211009_0.out)) x12_3 p1211010 q1211010
                      cases e1211010
                      replace p1211010 := eq_true p1211010
                      replace q1211010 := eq_true q1211010
                      go_wp2
                      go_roundg k3
                      case measure => have := HK1.out; have := HK2.out; have := HK3.out; omega
                      case rel => exact ⟨(((rd (rd_L1 t1211001 x11_2) x12_3) == a1)), (wrap64 (x12_3 + 1)), (by first | rfl | (simp; done) | (simp [*]; done)), (by first | rfl | (simp; done) | (simp [*]; done)), H', ⟨by have := HK1.out; have := HK2.out; have := HK3.out; omega⟩, ⟨by (with_reducible repeat (first | apply Kd.S_alloc | apply Kd.S_drewN | apply Kd.S_drew)); exact HO_6.out⟩, ⟨by (with_reducible repeat (first | apply Kd.R_alloc | apply Kd.R_drewN | apply Kd.R_drew)); exact HO_7.out⟩, ⟨by repeat (first | (with_reducible first | exact HB.out | apply below_alloc | apply pw_below_drewN | apply below_drew1) | exact HB.out)⟩⟩
                     ·rw [if_neg c28] at H
                      exact absurd H (by simp)
                    ·rw [if_neg c27] at H
                     exact absurd H (by simp)
                   ·rw [if_neg c26] at H
                    exact absurd H (by simp)
                  ·rw [if_neg c25] at H
                   exact absurd H (by simp)
                ·rw [if_neg c22] at H
                 exact absurd H (by simp)
               ·replace c20 := Bool.eq_false_iff.mpr c20
                subst c20
                have H1 : (spec_l10Sets.l2 k3 a1 (wrap64 ((l0.length : Int) / 2)) t1211001 x7_1 x8_1 false (wrap64 (x10_2 + 1)) x11_2 (wrap64 (x12_3 + 1))) = some r := by rw [if_neg (show ¬ (false = true) by decide)] at H; exact H
                clear H
                have H := H1
                clear H1
                have H' := Aside0.mk H
                clear H
                go_wp2
                go_roundg k3
                case measure => have := HK1.out; have := HK2.out; have := HK3.out; omega
                case rel => exact ⟨(false), (wrap64 (x12_3 + 1)), (by first | rfl | (simp; done) | (simp [*]; done)), (by first | rfl | (simp; done) | (simp [*]; done)), H', ⟨by have := HK1.out; have := HK2.out; have := HK3.out; omega⟩, ⟨by (with_reducible repeat (first | apply Kd.S_alloc | apply Kd.S_drewN | apply Kd.S_drew)); exact HO_6.out⟩, ⟨by (with_reducible repeat (first | apply Kd.R_alloc | apply Kd.R_drewN | apply Kd.R_drew)); exact HO_7.out⟩, ⟨by repeat (first | (with_reducible first | exact HB.out | apply below_alloc | apply pw_below_drewN | apply below_drew1) | exact HB.out)⟩⟩
              ·rw [if_neg c19] at H
               have c19b0 : decide (x12_3 < x11_2) = false := decide_eq_false c19
               clear c19
               have H' := Aside0.mk H
               clear H
               go_wp2
               go_roundg k3
               case measure => have := HK1.out; have := HK2.out; have := HK3.out; omega
               case rel => exact ⟨(x9_3), ((wrap64 (x10_2 + 1))), (wrap64 (x11_2 + 1)), (by first | rfl | (simp; done) | (simp [*]; done)), (by first | rfl | (simp; done) | (simp [*]; done)), (by first | rfl | (simp; done) | (simp [*]; done)), H', ⟨by have := HK1.out; have := HK2.out; have := HK3.out; omega⟩, ⟨by (with_reducible repeat (first | apply Kd.S_alloc | apply Kd.S_drewN | apply Kd.S_drew)); exact HO_6.out⟩, ⟨by (with_reducible repeat (first | apply Kd.R_alloc | apply Kd.R_drewN | apply Kd.R_drew)); exact HO_7.out⟩, ⟨by repeat (first | (with_reducible first | exact HB.out | apply below_alloc | apply pw_below_drewN | apply below_drew1) | exact HB.out)⟩⟩
          ·rw [if_neg c16] at H
           exact absurd H (by simp)
         ·rw [if_neg c14] at H
          have c14b0 : decide (x11_2 < (wrap64 ((l0.length : Int) / 2))) = false := decide_eq_false c14
          clear c14
          by_cases c30 : x9_2 = true
          ·subst c30
           have H1 : (if 0 ≤ x10_2 then (if x10_2 < (x7_1.length : Int) then (spec_l10Sets.l0 k2 a1 (wrap64 ((l0.length : Int) / 2)) t1211001 (x7_1.set (x10_2 : Int).toNat (wrap64 ((rd x7_1 x10_2) + 1))) (wrap64 (x8_1 + 1))) else (none)) else (none)) = some r := by rw [if_pos rfl] at H; exact H
           clear H
           have H := H1
           clear H1
           by_cases c31 : 0 ≤ x10_2
           ·rw [if_pos c31] at H
            have c31b0 : decide (0 ≤ x10_2) = true := decide_eq_true c31
            clear c31
            by_cases c32 : x10_2 < (x7_1.length : Int)
            ·rw [if_pos c32] at H
             have c32b0 : decide (x10_2 < (x7_1.length : Int)) = true := decide_eq_true c32
             clear c32
             obtain ⟨y1211008, hy1211008⟩ : ∃ y_ : List Int, y_ = (x7_1.set (x10_2 : Int).toNat (wrap64 ((rd x7_1 x10_2) + 1))) := ⟨_, rfl⟩
             replace H : (spec_l10Sets.l0 k2 a1 (wrap64 ((l0.length : Int) / 2)) t1211001 y1211008 (wrap64 (x8_1 + 1))) = some r := by first | (rw [hy1211008]; with_reducible exact H) | (have H2_ := (Option.bind_some _ _).symm.trans H; rw [hy1211008]; with_reducible exact H2_) | (have H2_ := (Option.bind_some _ _).symm.trans H; with_reducible exact H2_) | with_reducible exact H | (rw [hy1211008]; exact H) | exact H
             have Ny1211008 := Aside0.mk hy1211008
             clear hy1211008
             have H' := Aside0.mk H
             clear H
             obtain ⟨Ao34, co34, eo34⟩ := Kd.R_slice HO_7.out
             subst eo34
             have p1211007 : 0 ≤ (x10_2 : Int) := of_decide_eq_true (by first | (with_reducible assumption) | assumption)
             have q1211007 : x10_2 < (x7_1.length : Int) := of_decide_eq_true (by first | (with_reducible assumption) | assumption)
             obtain ⟨ad1211007, e1211007, hx1211007_0⟩ := Kd.at_int (Kd.R_reads' HO_7.out).2.2 x10_2 p1211007 q1211007
             cases e1211007
             replace p1211007 := eq_true p1211007
             replace q1211007 := eq_true q1211007
             have p33 : 0 ≤ (x10_2 : Int) := of_decide_eq_true (by first | (with_reducible assumption) | assumption)
             have q33 : (x10_2 : Int) < ((x7_1.length : Int) : Int) := of_decide_eq_true (by first | (with_reducible assumption) | assumption)
             obtain ⟨go33, co33, eo33, gb33, gl33, cl33, HG33⟩ := Kd.R_form HO_7.out (by omega)
             (first | cases eo33 | (injection eo33 with ea_ en_ ec_; (first | subst ea_ | (injection ea_ with ea_; subst ea_)); subst ec_; clear en_))
             have GB33 := Aside0.mk gb33
             have GG33 := Aside0.mk HG33
             clear gb33 gl33 HG33
             (first | simp only [add_plain] at hx1211007_0 | skip)
             obtain ⟨hx33_0, hf33_0⟩ := Kd.R_celln 0 HO_7.out (x10_2 : Int) p33 q33
             replace p33 := eq_true p33
             replace q33 := eq_true q33
             have HP35 := Kd.R_putg HO_7.out (x10_2 : Int) (wrap64 ((rd x7_1 x10_2) + 1))
             go_wp2_with (first | ((with_reducible refine gate_store (t := 2) (p := 72) rfl ?_); refine store_event (t := 2) (p := 72) (v := ?vo_w36) (w1 := (wr.setCell ⟨go33, (x10_2 : Int).toNat, none⟩ (.int .i64 (wrap64 ((rd x7_1 x10_2) + 1))))) ?hg ?ho ?hn ?hr ?_; (case ho => rfl); (case hg => rfl); (case hn => rfl); (case hr => first | (go_simp; done) | (go_simp; rfl)); intro w36 hw; have hg : wr.grownBy w36 (some go33) := (by rw [hw]; exact HP35.2); have hp_ : Kd.R (Kd.int .i64) 2 w36 w.heap.size (fun _ => True) (.slice (some ⟨go33, 0, none⟩) x7_1.length co34) y1211008 := (by rw [hw, Ny1211008.out]; exact HP35.1); clear HP35; have n0_ := Aside0.mk (Kd.S_after (v := (.slice (some ⟨go33, 0, none⟩) x7_1.length co34)) (v1 := (.slice (some ⟨go33, 0, none⟩) x7_1.length co34)) (ok := (fun _ => True)) (by (with_reducible repeat (first | apply Kd.S_alloc | apply Kd.S_drewN | apply Kd.S_drew)); exact Kd.S_mono HO_6.out (fun _ hk => ⟨trivial, hk⟩)) hg (.inl rfl)); have n1_ := Aside0.mk (hp_); have n2_ := Aside0.mk ((by rw [hw]; exact below_set (HB.out) GB33.out : Below w.heap.size w w36)); clear HO_6; clear HO_7; clear HB; have HO_6 := n0_; have HO_7 := n1_; have HB := n2_; clear n0_ n1_ n2_; clear hg hw hp_))
             go_roundg k2
             case measure => have := HK1.out; have := HK2.out; omega
             case rel => exact ⟨(y1211008), (wrap64 (x8_1 + 1)), (by first | rfl | (simp; done) | (simp [*]; done)), H', ⟨by have := HK1.out; have := HK2.out; omega⟩, ⟨by (with_reducible repeat (first | apply Kd.S_alloc | apply Kd.S_drewN | apply Kd.S_drew)); exact Kd.S_mono HO_6.out (fun _ hk => hk.2)⟩, ⟨by (with_reducible repeat (first | apply Kd.R_alloc | apply Kd.R_drewN | apply Kd.R_drew)); exact HO_7.out⟩, ⟨by repeat (first | (with_reducible first | exact HB.out | apply below_alloc | apply pw_below_drewN | apply below_drew1) | exact HB.out)⟩⟩
            ·rw [if_neg c32] at H
             exact absurd H (by simp)
           ·rw [if_neg c31] at H
            exact absurd H (by simp)
          ·replace c30 := Bool.eq_false_iff.mpr c30
           subst c30
           have H1 : (spec_l10Sets.l0 k2 a1 (wrap64 ((l0.length : Int) / 2)) t1211001 x7_1 (wrap64 (x8_1 + 1))) = some r := by rw [if_neg (show ¬ (false = true) by decide)] at H; exact H
           clear H
           have H := H1
           clear H1
           have H' := Aside0.mk H
           clear H
           go_wp2
           go_roundg k2
           case measure => have := HK1.out; have := HK2.out; omega
           case rel => exact ⟨(x7_1), (wrap64 (x8_1 + 1)), (by first | rfl | (simp; done) | (simp [*]; done)), H', ⟨by have := HK1.out; have := HK2.out; omega⟩, ⟨by (with_reducible repeat (first | apply Kd.S_alloc | apply Kd.S_drewN | apply Kd.S_drew)); exact HO_6.out⟩, ⟨by (with_reducible repeat (first | apply Kd.R_alloc | apply Kd.R_drewN | apply Kd.R_drew)); exact HO_7.out⟩, ⟨by repeat (first | (with_reducible first | exact HB.out | apply below_alloc | apply pw_below_drewN | apply below_drew1) | exact HB.out)⟩⟩
      ·rw [if_neg c13] at H
       have c13b0 : decide (x8_1 < (ji12)) = false := decide_eq_false c13
       clear c13
       obtain rfl := Option.some.inj H
       go_wp2
       go_ret
       exact ⟨_, by first | rfl | (simp [errW_none, errW_some] <;> rfl) | (simp only [← hji4, ← hji10, ← hji12]; first | rfl | (simp [errW_none, errW_some] <;> rfl)) | (simp [*, errW_none, errW_some] <;> rfl), by (with_reducible repeat (first | apply Kd.R_alloc | apply Kd.R_drewN | apply Kd.R_drew)); exact HO_7.out, by repeat (first | (with_reducible first | exact HB.out | apply below_alloc | apply pw_below_drewN | apply below_drew1) | exact HB.out)⟩
     ·rw [if_neg c11] at H
      exact absurd H (by simp)
  ·rw [if_neg c6] at H
   exact absurd H (by simp)
 ·rw [if_neg c5] at H
  exact absurd H (by simp)

end Go.Proofs.Ytfijnlbkflmkbaa.F
