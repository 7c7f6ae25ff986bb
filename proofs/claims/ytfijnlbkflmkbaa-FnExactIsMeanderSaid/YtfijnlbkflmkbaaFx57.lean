/- What impl_curves answers, and that the Go text comes to it: for every world in which the arguments read as told. -/
import Derived.Test.YtfijnlbkflmkbaaFgA
import Derived.Test.YtfijnlbkflmkbaaFx56
namespace Go.Proofs.Ytfijnlbkflmkbaa.F
open Go.RowKit Go.Proofs.YtfijnlbkflmkbaaW.PrintWords Go.Proofs.YtfijnlbkflmkbaaW.PrintLast Go.Proofs.YtfijnlbkflmkbaaW.PrintMore
attribute [local go_sem] max2_int min2_int max_two min_two max_three min_three max_four min_four   -- for this text's walks alone
set_option linter.unusedVariables false
set_option linter.unusedSimpArgs false

/-! ### impl_curves: function 95 -/
mutual
def impl_curves.l0 : Nat → List Int → List Int → List Bool → Int → Int → Int → Option (Int)
  | 0, _, _, _, _, _, _ => none
  | k + 1, x5, x6, x7, x8, x19, x20 => if x20 < x19 then (if 0 ≤ x20 then (if x20 < (x7.length : Int) then (if rdOf false x7 x20 = true then (impl_curves.l0 k x5 x6 x7 x8 x19 (wrap64 (x20 + 1))) else (impl_curves.l1 k x5 x6 x7 (wrap64 (x8 + 1)) x20 x19 x20)) else (none)) else (none)) else (some x8)
def impl_curves.l1 : Nat → List Int → List Int → List Bool → Int → Int → Int → Int → Option (Int)
  | 0, _, _, _, _, _, _, _ => none
  | k + 1, x5, x6, x7, x8, x10, x19, x20 => if 0 ≤ x10 then (if x10 < (x7.length : Int) then (if rdOf false x7 x10 = true then (impl_curves.l0 k x5 x6 x7 x8 x19 (wrap64 (x20 + 1))) else (if x10 < (x5.length : Int) then (if 0 ≤ (rd x5 x10) then (if (rd x5 x10) < (x7.length : Int) then (if (rd x5 x10) < (x6.length : Int) then (impl_curves.l1 k x5 x6 ((x7.set (x10 : Int).toNat true).set ((rd x5 x10) : Int).toNat true) x8 (rd x6 (rd x5 x10)) x19 x20) else (none)) else (none)) else (none)) else (none))) else (none)) else (none)
end
def impl_curves.f (k : Nat) (l0 : List Int) (l1 : List Int) : Option (Int) := (impl_mates.f k l0).bind fun t951001 => ((impl_mates.f k l1).bind fun t951004 => (if 0 ≤ (l0.length : Int) then (if ((l0.length : Int) : Int).toNat ≤ 281474976710656 then ((some (List.replicate ((l0.length : Int) : Int).toNat false : List Bool)).bind fun y951007 => (impl_curves.l0 k t951001 t951004 y951007 0 (y951007.length : Int) 0)) else (none)) else (none)))
theorem impl_curves.mono_l : ∀ k, (∀ y0 y1 y2 y3 y4 y5, LeO (impl_curves.l0 k y0 y1 y2 y3 y4 y5) (impl_curves.l0 (k + 1) y0 y1 y2 y3 y4 y5)) ∧ (∀ y0 y1 y2 y3 y4 y5 y6, LeO (impl_curves.l1 k y0 y1 y2 y3 y4 y5 y6) (impl_curves.l1 (k + 1) y0 y1 y2 y3 y4 y5 y6))
  | 0 => ⟨fun _ _ _ _ _ _ r h => by simp [impl_curves.l0] at h, fun _ _ _ _ _ _ _ r h => by simp [impl_curves.l1] at h⟩
  | k + 1 => by
    obtain ⟨ih0, ih1⟩ := impl_curves.mono_l k
    refine ⟨?_, ?_⟩
    · intro y0 y1 y2 y3 y4 y5
      unfold impl_curves.l0
      repeat' first
      | (with_reducible exact ih0 _ _ _ _ _ _)
      | (with_reducible exact ih1 _ _ _ _ _ _ _)
      | (with_reducible exact impl_mates.mono _ _)
      | (with_reducible exact LeO.refl _)
      | (with_reducible exact LeO.none _)
      | (with_reducible refine LeO.ite ?_ ?_)
      | (with_reducible refine LeO.bind ?_ (fun _ => ?_))
      | exact ih0 _ _ _ _ _ _
      | exact ih1 _ _ _ _ _ _ _
      | exact impl_mates.mono _ _
      | exact LeO.none _
      | refine LeO.ite ?_ ?_
      | refine LeO.bind ?_ (fun _ => ?_)
    · intro y0 y1 y2 y3 y4 y5 y6
      unfold impl_curves.l1
      repeat' first
      | (with_reducible exact ih0 _ _ _ _ _ _)
      | (with_reducible exact ih1 _ _ _ _ _ _ _)
      | (with_reducible exact impl_mates.mono _ _)
      | (with_reducible exact LeO.refl _)
      | (with_reducible exact LeO.none _)
      | (with_reducible refine LeO.ite ?_ ?_)
      | (with_reducible refine LeO.bind ?_ (fun _ => ?_))
      | exact ih0 _ _ _ _ _ _
      | exact ih1 _ _ _ _ _ _ _
      | exact impl_mates.mono _ _
      | exact LeO.none _
      | refine LeO.ite ?_ ?_
      | refine LeO.bind ?_ (fun _ => ?_)
theorem impl_curves.mono : ∀ a0 a1 k, LeO (impl_curves.f k a0 a1) (impl_curves.f (k + 1) a0 a1) := by
  intro a0 a1 k
  obtain ⟨ih0, ih1⟩ := impl_curves.mono_l k
  unfold impl_curves.f
  repeat' first
      | (with_reducible exact ih0 _ _ _ _ _ _)
      | (with_reducible exact ih1 _ _ _ _ _ _ _)
      | (with_reducible exact impl_mates.mono _ _)
      | (with_reducible exact LeO.refl _)
      | (with_reducible exact LeO.none _)
      | (with_reducible refine LeO.ite ?_ ?_)
      | (with_reducible refine LeO.bind ?_ (fun _ => ?_))
      | exact ih0 _ _ _ _ _ _
      | exact ih1 _ _ _ _ _ _ _
      | exact impl_mates.mono _ _
      | exact LeO.none _
      | refine LeO.ite ?_ ?_
      | refine LeO.bind ?_ (fun _ => ?_)
set_option maxHeartbeats 8000000 in
set_option maxRecDepth 100000 in
theorem impl_curves.calls (k : Nat) (A0 : Option Addr) (c0 : Nat) (l0 : List Int) (A1 : Option Addr) (c1 : Nat) (l1 : List Int) (r : Int) (w : World) (hr0 : Kd.C (Kd.int .i64) w A0 l0.length l0) (hc0 : l0.length ≤ c0) (hr1 : Kd.C (Kd.int .i64) w A1 l1.length l1) (hc1 : l1.length ≤ c1) (h : impl_curves.f k l0 l1 = some r) :
    Calls Try.prog 95 #[.slice A0 l0.length c0, .slice A1 l1.length c1] w fun e w' => e = .returned (.int .i64 r) ∧ Below w.heap.size w w' := by
  have HR0 := Aside0.mk hr0
  have HC0 := Aside0.mk hc0
  clear hr0 hc0
  have HR1 := Aside0.mk hr1
  have HC1 := Aside0.mk hc1
  clear hr1 hc1
  have HB := Aside0.mk (Below.refl w.heap.size w)
  have H : ((impl_mates.f k l0).bind fun t951001 => ((impl_mates.f k l1).bind fun t951004 => (if 0 ≤ (l0.length : Int) then (if ((l0.length : Int) : Int).toNat ≤ 281474976710656 then ((some (List.replicate ((l0.length : Int) : Int).toNat false : List Bool)).bind fun y951007 => (impl_curves.l0 k t951001 t951004 y951007 0 (y951007.length : Int) 0)) else (none)) else (none)))) = some r := h
  clear h
  replace H := Option.bind_eq_some_iff.mp H
  obtain ⟨t951001, A30, H⟩ := H
  replace H : ((impl_mates.f k l1).bind fun t951004 => (if 0 ≤ (l0.length : Int) then (if ((l0.length : Int) : Int).toNat ≤ 281474976710656 then ((some (List.replicate ((l0.length : Int) : Int).toNat false : List Bool)).bind fun y951007 => (impl_curves.l0 k t951001 t951004 y951007 0 (y951007.length : Int) 0)) else (none)) else (none))) = some r := H
  have A3 := Aside0.mk A30
  clear A30
  replace H := Option.bind_eq_some_iff.mp H
  obtain ⟨t951004, A40, H⟩ := H
  replace H : (if 0 ≤ (l0.length : Int) then (if ((l0.length : Int) : Int).toNat ≤ 281474976710656 then ((some (List.replicate ((l0.length : Int) : Int).toNat false : List Bool)).bind fun y951007 => (impl_curves.l0 k t951001 t951004 y951007 0 (y951007.length : Int) 0)) else (none)) else (none)) = some r := H
  have A4 := Aside0.mk A40
  clear A40
  by_cases c5 : 0 ≤ (l0.length : Int)
  · rw [if_pos c5] at H
    have c5b0 := eq_true c5
    have c5b1 : decide (0 ≤ (l0.length : Int)) = true := decide_eq_true c5
    clear c5
    by_cases c6 : ((l0.length : Int) : Int).toNat ≤ 281474976710656
    · rw [if_pos c6] at H
      have c6b0 := eq_true c6
      have c6b1 : decide (((l0.length : Int) : Int).toNat ≤ 281474976710656) = true := decide_eq_true c6
      clear c6
      obtain ⟨y951007, hy951007⟩ : ∃ y_ : List Bool, y_ = (List.replicate ((l0.length : Int) : Int).toNat false) := ⟨_, rfl⟩
      replace H : (impl_curves.l0 k t951001 t951004 y951007 0 (y951007.length : Int) 0) = some r := by first | (rw [hy951007]; with_reducible exact H) | (have H2_ := (Option.bind_some _ _).symm.trans H; rw [hy951007]; with_reducible exact H2_) | (have H2_ := (Option.bind_some _ _).symm.trans H; with_reducible exact H2_) | with_reducible exact H | (rw [hy951007]; exact H) | exact H
      have Ny951007 := Aside0.mk hy951007
      clear hy951007
      have H' := Aside0.mk H
      clear H
      go_enter Try.func95, Try.ntmps95
      go_wp2_with (first | ((with_reducible refine gate_callee (f := 146) rfl ?_); refine goesL_ (some 12) rfl rfl Try.func146 (by kernel_rfl) rfl #[.slice A0 l0.length c0] rfl (by (try simp only [List.map_toArray, List.map_cons, List.map_nil]); first | done | rfl | (simp only [List.length_drop, List.length_take]; rfl)) ?_; (with_reducible refine (impl_mates.calls k _ _ l0 t951001 _ ?side1 ?side2 A3.out).mono ?_); (case side1 => repeat (first | exact HR0.out | (with_reducible refine Kd.C_alloc ?_ _) | (with_reducible refine Kd.C_drewN ?_ _) | (with_reducible refine Kd.C_drew ?_))); (case side2 => exact HC0.out); rintro e w7 ⟨v951002, rfl, ho0, hb⟩; refine ⟨_, rfl, ?_⟩; have n0_ := Aside0.mk (Kd.R_lower ho0 (below_size (by repeat (first | (with_reducible first | exact HB.out | apply below_alloc | apply pw_below_drewN | apply below_drew1) | exact HB.out)))); have n1_ := Aside0.mk (below_step (by repeat (first | (with_reducible first | exact HB.out | apply below_alloc | apply pw_below_drewN | apply below_drew1) | exact HB.out)) hb); clear HB; have HO951003 := n0_; have HB := n1_; clear n0_ n1_; (try clear hb); (try clear hb2); (try clear hk); (try clear hi); (try clear ho0)) | ((with_reducible refine gate_callee (f := 146) rfl ?_); refine goesL_ (some 14) rfl rfl Try.func146 (by kernel_rfl) rfl #[.slice A1 l1.length c1] rfl (by (try simp only [List.map_toArray, List.map_cons, List.map_nil]); first | done | rfl | (simp only [List.length_drop, List.length_take]; rfl)) ?_; (with_reducible refine (impl_mates.calls k _ _ l1 t951004 _ ?side1 ?side2 A4.out).mono ?_); (case side1 => repeat (first | exact (Kd.C_below HR1.out HB.out) | (with_reducible refine Kd.C_alloc ?_ _) | (with_reducible refine Kd.C_drewN ?_ _) | (with_reducible refine Kd.C_drew ?_))); (case side2 => exact HC1.out); rintro e w8 ⟨v951005, rfl, ho0, hb⟩; refine ⟨_, rfl, ?_⟩; have n0_ := Aside0.mk (Kd.R_elder' (by (with_reducible repeat (first | apply Kd.R_alloc | apply Kd.R_drewN | apply Kd.R_drew)); exact HO951003.out) (Kd.R_base ho0) hb); have n1_ := Aside0.mk (Kd.R_lower (Kd.R_new' ho0 (Kd.R_lt (by (with_reducible repeat (first | apply Kd.R_alloc | apply Kd.R_drewN | apply Kd.R_drew)); exact HO951003.out))) (below_size (by repeat (first | (with_reducible first | exact HB.out | apply below_alloc | apply pw_below_drewN | apply below_drew1) | exact HB.out)))); have n2_ := Aside0.mk (below_step (by repeat (first | (with_reducible first | exact HB.out | apply below_alloc | apply pw_below_drewN | apply below_drew1) | exact HB.out)) hb); clear HO951003; clear HB; have HO951003 := n0_; have HO951006 := n1_; have HB := n2_; clear n0_ n1_ n2_; (try clear hb); (try clear hb2); (try clear hk); (try clear hi); (try clear ho0)) | ((with_reducible refine gate_dst (N := 17) rfl ?_); refine Kd.R_make Kd.bool _ 4 rfl (N := 17) rfl 80 _ _ rfl (l0.length : Int) rfl rfl Try.underlying80 (.bool false) 1 info4 rfl (by decide) (by omega) false (ok := fun _ => True) (okp := fun _ => True) rfl (fun _ hk => hk) trivial (of_decide_eq_true (by first | (with_reducible assumption) | assumption)) (Nat.le_trans (Nat.mul_le_mul_right _ (of_decide_eq_true (by first | (with_reducible assumption) | assumption) : (l0.length : Int).toNat ≤ 281474976710656)) (by omega)) (Below.refl _ _) (Nat.le_refl _) ?_; intro v951008 w9 ho10 hb hg_ hnew_; clear hg_ hnew_; (first | rw [← Ny951007.out] at ho10 | (simp only [Int.reduceToNat] at ho10; rw [← Ny951007.out] at ho10)); have n0_ := Aside0.mk (Kd.R_below (by (with_reducible repeat (first | apply Kd.R_alloc | apply Kd.R_drewN | apply Kd.R_drew)); exact HO951003.out) hb); have n1_ := Aside0.mk (Kd.R_below (by (with_reducible repeat (first | apply Kd.R_alloc | apply Kd.R_drewN | apply Kd.R_drew)); exact HO951006.out) hb); have n2_ := Aside0.mk (Kd.R_lower ho10 (below_size (by repeat (first | (with_reducible first | exact HB.out | apply below_alloc | apply pw_below_drewN | apply below_drew1) | exact HB.out)))); have n3_ := Aside0.mk (below_step (by repeat (first | (with_reducible first | exact HB.out | apply below_alloc | apply pw_below_drewN | apply below_drew1) | exact HB.out)) hb); clear HO951003; clear HO951006; clear HB; have HO951003 := n0_; have HO951006 := n1_; have HO951009 := n2_; have HB := n3_; clear n0_ n1_ n2_ n3_; clear hb ho10; obtain ⟨Ao11, co11, eo11⟩ := Kd.R_slice HO951009.out; subst eo11))
      go_loopg [8, 20] k (fun kq v8 v20 w' => ∃ (x7_1 : List Bool) (x8_1 : Int) (x20_1 : Int), v8 = .int .i64 x8_1 ∧ v20 = .int .i64 x20_1 ∧ Aside0 (impl_curves.l0 kq t951001 t951004 x7_1 x8_1 (y951007.length : Int) x20_1 = some r) ∧ Aside0 (kq ≤ k) ∧ Aside0 (Kd.R (Kd.int .i64) 3 w' w.heap.size (fun k_ => some k_ ≠ (v951005 : Value).ownBlock) v951002 t951001) ∧ Aside0 (Kd.R (Kd.int .i64) 3 w' w.heap.size (fun k_ => some k_ ≠ (v951002 : Value).ownBlock) v951005 t951004) ∧ Aside0 (Kd.R Kd.bool 4 w' w.heap.size (fun _ => True) (.slice Ao11 y951007.length co11) x7_1) ∧ Aside0 (Below w.heap.size w w'))
      case atStart => exact ⟨(y951007), (0), (0), (by first | rfl | (simp; done) | (simp [*]; done)), (by first | rfl | (simp; done) | (simp [*]; done)), H', ⟨Nat.le_refl _⟩, ⟨by (with_reducible repeat (first | apply Kd.R_alloc | apply Kd.R_drewN | apply Kd.R_drew)); exact Kd.R_mono HO951003.out (fun _ hk => hk.2)⟩, ⟨by (with_reducible repeat (first | apply Kd.R_alloc | apply Kd.R_drewN | apply Kd.R_drew)); exact Kd.R_mono HO951006.out (fun _ hk => hk.2)⟩, ⟨by (with_reducible repeat (first | apply Kd.R_alloc | apply Kd.R_drewN | apply Kd.R_drew)); exact HO951009.out⟩, ⟨by repeat (first | (with_reducible first | exact HB.out | apply below_alloc | apply pw_below_drewN | apply below_drew1) | exact HB.out)⟩⟩
      case round =>
        clear H'
        try clear c1
        try clear p2
        try clear c5
        try clear c5b0
        try clear c5b1
        try clear c6
        try clear c6b0
        try clear c6b1
        try clear c9
        obtain ⟨x7_1, x8_1, x20_1, rfl, rfl, HA, HK1, HO_5, HO_6, HO_7, HB⟩ := hrel
        have hl7_1 := (Kd.R_reads' HO_7.out).1
        rw [hl7_1] at HO_7
        (try simp only [hl7_1])
        (try simp only [hl7_1] at HO_5)
        (try simp only [hl7_1] at HO_6)
        cases gk with
        | zero => exact absurd HA.out (by simp [impl_curves.l0])
        | succ k1 =>
          have H := HA.out
          clear HA
          simp only [impl_curves.l0] at H
          by_cases c12 : x20_1 < (y951007.length : Int)
          · rw [if_pos c12] at H
            have c12b0 : decide (x20_1 < (y951007.length : Int)) = true := decide_eq_true c12
            clear c12
            by_cases c13 : 0 ≤ x20_1
            · rw [if_pos c13] at H
              have c13b0 : decide (0 ≤ x20_1) = true := decide_eq_true c13
              clear c13
              by_cases c14 : x20_1 < (x7_1.length : Int)
              · rw [if_pos c14] at H
                have c14b0 : decide (x20_1 < (x7_1.length : Int)) = true := decide_eq_true c14
                clear c14
                obtain ⟨bq15, hbq15⟩ : ∃ b_ : Bool, b_ = (rdOf false x7_1 x20_1) := ⟨_, rfl⟩
                replace H : (if bq15 = true then (impl_curves.l0 k1 t951001 t951004 x7_1 x8_1 (y951007.length : Int) (wrap64 (x20_1 + 1))) else (impl_curves.l1 k1 t951001 t951004 x7_1 (wrap64 (x8_1 + 1)) x20_1 (y951007.length : Int) x20_1)) = some r := by rw [← hbq15] at H; exact H
                have Nbq15 := Aside0.mk hbq15
                clear hbq15
                by_cases c16 : bq15 = true
                · subst c16
                  have H1 : (impl_curves.l0 k1 t951001 t951004 x7_1 x8_1 (y951007.length : Int) (wrap64 (x20_1 + 1))) = some r := by rw [if_pos rfl] at H; exact H
                  clear H
                  have H := H1
                  clear H1
                  have H' := Aside0.mk H
                  clear H
                  have p951010 : 0 ≤ (x20_1 : Int) := of_decide_eq_true (by first | (with_reducible assumption) | assumption)
                  have q951010 : x20_1 < (x7_1.length : Int) := of_decide_eq_true (by first | (with_reducible assumption) | assumption)
                  obtain ⟨ad951010, e951010, hx951010_0⟩ := Kd.at_bool (Kd.R_reads' HO_7.out).2.2 x20_1 p951010 q951010
                  (try rw [← Nbq15.out] at hx951010_0)
                  cases e951010
                  replace p951010 := eq_true p951010
                  replace q951010 := eq_true q951010
                  go_wp2
                  (try simp only [← hl7_1])
                  go_roundg k1
                  case measure => have := HK1.out; omega
                  case rel => exact ⟨(x7_1), (x8_1), (wrap64 (x20_1 + 1)), (by first | rfl | (simp; done) | (simp [*]; done)), (by first | rfl | (simp; done) | (simp [*]; done)), H', ⟨by have := HK1.out; omega⟩, ⟨by (try simp only [hl7_1]); (with_reducible repeat (first | apply Kd.R_alloc | apply Kd.R_drewN | apply Kd.R_drew)); exact HO_5.out⟩, ⟨by (try simp only [hl7_1]); (with_reducible repeat (first | apply Kd.R_alloc | apply Kd.R_drewN | apply Kd.R_drew)); exact HO_6.out⟩, ⟨by (try simp only [hl7_1]); (with_reducible repeat (first | apply Kd.R_alloc | apply Kd.R_drewN | apply Kd.R_drew)); exact HO_7.out⟩, ⟨by repeat (first | (with_reducible first | exact HB.out | apply below_alloc | apply pw_below_drewN | apply below_drew1) | exact HB.out)⟩⟩
                · replace c16 := Bool.eq_false_iff.mpr c16
                  subst c16
                  have H1 : (impl_curves.l1 k1 t951001 t951004 x7_1 (wrap64 (x8_1 + 1)) x20_1 (y951007.length : Int) x20_1) = some r := by rw [if_neg (show ¬ (false = true) by decide)] at H; exact H
                  clear H
                  have H := H1
                  clear H1
                  have H' := Aside0.mk H
                  clear H
                  have p951010 : 0 ≤ (x20_1 : Int) := of_decide_eq_true (by first | (with_reducible assumption) | assumption)
                  have q951010 : x20_1 < (x7_1.length : Int) := of_decide_eq_true (by first | (with_reducible assumption) | assumption)
                  obtain ⟨ad951010, e951010, hx951010_0⟩ := Kd.at_bool (Kd.R_reads' HO_7.out).2.2 x20_1 p951010 q951010
                  (try rw [← Nbq15.out] at hx951010_0)
                  cases e951010
                  replace p951010 := eq_true p951010
                  replace q951010 := eq_true q951010
                  go_wp2
                  go_loopg [10] k1 (fun kq v10 w' => ∃ (x7_2 : List Bool) (x10_2 : Int), v10 = .int .i64 x10_2 ∧ Aside0 (impl_curves.l1 kq t951001 t951004 x7_2 (wrap64 (x8_1 + 1)) x10_2 (y951007.length : Int) x20_1 = some r) ∧ Aside0 (kq ≤ k1) ∧ Aside0 (Kd.R (Kd.int .i64) 3 w' w.heap.size (fun k_ => some k_ ≠ (v951005 : Value).ownBlock) v951002 t951001) ∧ Aside0 (Kd.R (Kd.int .i64) 3 w' w.heap.size (fun k_ => some k_ ≠ (v951002 : Value).ownBlock) v951005 t951004) ∧ Aside0 (Kd.R Kd.bool 4 w' w.heap.size (fun _ => True) (.slice (some ad951010) x7_1.length co11) x7_2) ∧ Aside0 (Below w.heap.size w w'))
                  case atStart => exact ⟨(x7_1), (x20_1), (by first | rfl | (simp; done) | (simp [*]; done)), H', ⟨Nat.le_refl _⟩, ⟨by (try simp only [hl7_1]); (with_reducible repeat (first | apply Kd.R_alloc | apply Kd.R_drewN | apply Kd.R_drew)); exact HO_5.out⟩, ⟨by (try simp only [hl7_1]); (with_reducible repeat (first | apply Kd.R_alloc | apply Kd.R_drewN | apply Kd.R_drew)); exact HO_6.out⟩, ⟨by (try simp only [hl7_1]); (with_reducible repeat (first | apply Kd.R_alloc | apply Kd.R_drewN | apply Kd.R_drew)); exact HO_7.out⟩, ⟨by repeat (first | (with_reducible first | exact HB.out | apply below_alloc | apply pw_below_drewN | apply below_drew1) | exact HB.out)⟩⟩
                  case round =>
                    clear H'
                    try clear c1
                    try clear q1
                    try clear p2
                    try clear c5
                    try clear c5b0
                    try clear c5b1
                    try clear c6
                    try clear c6b0
                    try clear c6b1
                    try clear p6
                    try clear c9
                    try clear p9
                    try clear q9
                    try clear hx9
                    try clear c12
                    try clear c12b0
                    try clear c13
                    try clear c13b0
                    try clear c14
                    try clear c14b0
                    try clear q15
                    try clear c16
                    try clear hx951010_0
                    try clear p2
                    try clear p951010
                    try clear q951010
                    obtain ⟨x7_2, x10_2, rfl, HA, HK2, HO_5, HO_6, HO_7, HB⟩ := hrel
                    have hl7_2 := (Kd.R_reads' HO_7.out).1
                    rw [hl7_2] at HO_7
                    (try simp only [hl7_2])
                    (try simp only [hl7_2] at HO_5)
                    (try simp only [hl7_2] at HO_6)
                    cases gk with
                    | zero => exact absurd HA.out (by simp [impl_curves.l1])
                    | succ k2 =>
                      have H := HA.out
                      clear HA
                      simp only [impl_curves.l1] at H
                      by_cases c17 : 0 ≤ x10_2
                      · rw [if_pos c17] at H
                        have c17b0 : decide (0 ≤ x10_2) = true := decide_eq_true c17
                        clear c17
                        by_cases c18 : x10_2 < (x7_2.length : Int)
                        · rw [if_pos c18] at H
                          have c18b0 : decide (x10_2 < (x7_2.length : Int)) = true := decide_eq_true c18
                          clear c18
                          obtain ⟨bq19, hbq19⟩ : ∃ b_ : Bool, b_ = (rdOf false x7_2 x10_2) := ⟨_, rfl⟩
                          replace H : (if bq19 = true then (impl_curves.l0 k2 t951001 t951004 x7_2 (wrap64 (x8_1 + 1)) (y951007.length : Int) (wrap64 (x20_1 + 1))) else (if x10_2 < (t951001.length : Int) then (if 0 ≤ (rd t951001 x10_2) then (if (rd t951001 x10_2) < (x7_2.length : Int) then (if (rd t951001 x10_2) < (t951004.length : Int) then (impl_curves.l1 k2 t951001 t951004 ((x7_2.set (x10_2 : Int).toNat true).set ((rd t951001 x10_2) : Int).toNat true) (wrap64 (x8_1 + 1)) (rd t951004 (rd t951001 x10_2)) (y951007.length : Int) x20_1) else (none)) else (none)) else (none)) else (none))) = some r := by rw [← hbq19] at H; exact H
                          have Nbq19 := Aside0.mk hbq19
                          clear hbq19
                          by_cases c20 : bq19 = true
                          · subst c20
                            have H1 : (impl_curves.l0 k2 t951001 t951004 x7_2 (wrap64 (x8_1 + 1)) (y951007.length : Int) (wrap64 (x20_1 + 1))) = some r := by rw [if_pos rfl] at H; exact H
                            clear H
                            have H := H1
                            clear H1
                            have H' := Aside0.mk H
                            clear H
                            have p951011 : 0 ≤ (x10_2 : Int) := of_decide_eq_true (by first | (with_reducible assumption) | assumption)
                            have q951011 : x10_2 < (x7_2.length : Int) := of_decide_eq_true (by first | (with_reducible assumption) | assumption)
                            obtain ⟨ad951011, e951011, hx951011_0⟩ := Kd.at_bool (Kd.R_reads' HO_7.out).2.2 x10_2 p951011 q951011
                            (try rw [← Nbq15.out] at hx951011_0)
                            (try rw [← Nbq19.out] at hx951011_0)
                            obtain rfl : ad951010 = ad951011 := (by injection e951011)
                            replace p951011 := eq_true p951011
                            replace q951011 := eq_true q951011
                            go_wp2
                            (try simp only [← hl7_1, ← hl7_2])
                            (try simp only [show (⟨go22, x20_1.toNat, none⟩ : Addr) = (⟨go22, 0, none⟩ : Addr).add x20_1.toNat from (add_plain _ _).symm])
                            go_roundg k2
                            case measure => have := HK1.out; have := HK2.out; omega
                            case rel => exact ⟨(x7_2), ((wrap64 (x8_1 + 1))), (wrap64 (x20_1 + 1)), (by first | rfl | (simp; done) | (simp [*]; done)), (by first | rfl | (simp; done) | (simp [*]; done)), H', ⟨by have := HK1.out; have := HK2.out; omega⟩, ⟨by (try simp only [hl7_1]); (try simp only [hl7_2]); (with_reducible repeat (first | apply Kd.R_alloc | apply Kd.R_drewN | apply Kd.R_drew)); exact HO_5.out⟩, ⟨by (try simp only [hl7_1]); (try simp only [hl7_2]); (with_reducible repeat (first | apply Kd.R_alloc | apply Kd.R_drewN | apply Kd.R_drew)); exact HO_6.out⟩, ⟨by (try simp only [hl7_1]); (try simp only [hl7_2]); (with_reducible repeat (first | apply Kd.R_alloc | apply Kd.R_drewN | apply Kd.R_drew)); exact HO_7.out⟩, ⟨by repeat (first | (with_reducible first | exact HB.out | apply below_alloc | apply pw_below_drewN | apply below_drew1) | exact HB.out)⟩⟩
                          · replace c20 := Bool.eq_false_iff.mpr c20
                            subst c20
                            have H1 : (if x10_2 < (t951001.length : Int) then (if 0 ≤ (rd t951001 x10_2) then (if (rd t951001 x10_2) < (x7_2.length : Int) then (if (rd t951001 x10_2) < (t951004.length : Int) then (impl_curves.l1 k2 t951001 t951004 ((x7_2.set (x10_2 : Int).toNat true).set ((rd t951001 x10_2) : Int).toNat true) (wrap64 (x8_1 + 1)) (rd t951004 (rd t951001 x10_2)) (y951007.length : Int) x20_1) else (none)) else (none)) else (none)) else (none)) = some r := by rw [if_neg (show ¬ (false = true) by decide)] at H; exact H
                            clear H
                            have H := H1
                            clear H1
                            by_cases c21 : x10_2 < (t951001.length : Int)
                            · rw [if_pos c21] at H
                              have c21b0 : decide (x10_2 < (t951001.length : Int)) = true := decide_eq_true c21
                              clear c21
                              obtain ⟨y951013, hy951013⟩ : ∃ y_ : List Bool, y_ = (x7_2.set (x10_2 : Int).toNat true) := ⟨_, rfl⟩
                              replace H : (if 0 ≤ (rd t951001 x10_2) then (if (rd t951001 x10_2) < (x7_2.length : Int) then (if (rd t951001 x10_2) < (t951004.length : Int) then (impl_curves.l1 k2 t951001 t951004 (y951013.set ((rd t951001 x10_2) : Int).toNat true) (wrap64 (x8_1 + 1)) (rd t951004 (rd t951001 x10_2)) (y951007.length : Int) x20_1) else (none)) else (none)) else (none)) = some r := by first | (rw [hy951013]; with_reducible exact H) | (have H2_ := (Option.bind_some _ _).symm.trans H; rw [hy951013]; with_reducible exact H2_) | (have H2_ := (Option.bind_some _ _).symm.trans H; with_reducible exact H2_) | with_reducible exact H | (rw [hy951013]; exact H) | exact H
                              have Ny951013 := Aside0.mk hy951013
                              clear hy951013
                              by_cases c23 : 0 ≤ (rd t951001 x10_2)
                              · rw [if_pos c23] at H
                                have c23b0 : decide (0 ≤ (rd t951001 x10_2)) = true := decide_eq_true c23
                                clear c23
                                by_cases c24 : (rd t951001 x10_2) < (x7_2.length : Int)
                                · rw [if_pos c24] at H
                                  have c24b0 : decide ((rd t951001 x10_2) < (x7_2.length : Int)) = true := decide_eq_true c24
                                  clear c24
                                  obtain ⟨y951014, hy951014⟩ : ∃ y_ : List Bool, y_ = (y951013.set ((rd t951001 x10_2) : Int).toNat true) := ⟨_, rfl⟩
                                  replace H : (if (rd t951001 x10_2) < (t951004.length : Int) then (impl_curves.l1 k2 t951001 t951004 y951014 (wrap64 (x8_1 + 1)) (rd t951004 (rd t951001 x10_2)) (y951007.length : Int) x20_1) else (none)) = some r := by first | (rw [hy951014]; with_reducible exact H) | (have H2_ := (Option.bind_some _ _).symm.trans H; rw [hy951014]; with_reducible exact H2_) | (have H2_ := (Option.bind_some _ _).symm.trans H; with_reducible exact H2_) | with_reducible exact H | (rw [hy951014]; exact H) | exact H
                                  have Ny951014 := Aside0.mk hy951014
                                  clear hy951014
                                  by_cases c26 : (rd t951001 x10_2) < (t951004.length : Int)
                                  · rw [if_pos c26] at H
                                    have c26b0 : decide ((rd t951001 x10_2) < (t951004.length : Int)) = true := decide_eq_true c26
                                    clear c26
                                    have H' := Aside0.mk H
                                    clear H
                                    have p951011 : 0 ≤ (x10_2 : Int) := of_decide_eq_true (by first | (with_reducible assumption) | assumption)
                                    have q951011 : x10_2 < (x7_2.length : Int) := of_decide_eq_true (by first | (with_reducible assumption) | assumption)
                                    obtain ⟨ad951011, e951011, hx951011_0⟩ := Kd.at_bool (Kd.R_reads' HO_7.out).2.2 x10_2 p951011 q951011
                                    (try rw [← Nbq15.out] at hx951011_0)
                                    (try rw [← Nbq19.out] at hx951011_0)
                                    obtain rfl : ad951010 = ad951011 := (by injection e951011)
                                    replace p951011 := eq_true p951011
                                    replace q951011 := eq_true q951011
                                    obtain ⟨Ao27, co27, eo27⟩ := Kd.R_slice HO_5.out
                                    subst eo27
                                    have p951012 : 0 ≤ (x10_2 : Int) := of_decide_eq_true (by first | (with_reducible assumption) | assumption)
                                    have q951012 : x10_2 < (t951001.length : Int) := of_decide_eq_true (by first | (with_reducible assumption) | assumption)
                                    obtain ⟨ad951012, e951012, hx951012_0⟩ := Kd.at_int (Kd.R_reads' HO_5.out).2.2 x10_2 p951012 q951012
                                    cases e951012
                                    replace p951012 := eq_true p951012
                                    replace q951012 := eq_true q951012
                                    have p22 : 0 ≤ (x10_2 : Int) := of_decide_eq_true (by first | (with_reducible assumption) | assumption)
                                    have q22 : (x10_2 : Int) < ((x7_2.length : Int) : Int) := of_decide_eq_true (by first | (with_reducible assumption) | assumption)
                                    obtain ⟨go22, co22, eo22, gb22, gl22, cl22, HG22⟩ := Kd.R_form HO_7.out (by omega)
                                    (first | cases eo22 | (injection eo22 with ea_ en_ ec_; (first | subst ea_ | (injection ea_ with ea_; subst ea_)); subst ec_; clear en_))
                                    have GB22 := Aside0.mk gb22
                                    have GG22 := Aside0.mk HG22
                                    clear gb22 gl22 HG22
                                    (first | simp only [add_plain] at hx951010_0 | skip)
                                    (first | simp only [add_plain] at hx951011_0 | skip)
                                    obtain ⟨hx22_0, hf22_0⟩ := Kd.R_celln false HO_7.out (x10_2 : Int) p22 q22
                                    replace p22 := eq_true p22
                                    replace q22 := eq_true q22
                                    have HP28 := Kd.R_putg HO_7.out (x10_2 : Int) true
                                    go_wp2_with (first | ((with_reducible refine gate_store (t := 4) (p := 49) rfl ?_); refine store_event (t := 4) (p := 49) (v := ?vo_w29) (w1 := (wr.setCell ⟨go22, (x10_2 : Int).toNat, none⟩ (.bool true))) ?hg ?ho ?hn ?hr ?_; (case ho => rfl); (case hg => rfl); (case hn => rfl); (case hr => first | (go_simp; done) | (go_simp; rfl)); intro w29 hw; have hg : wr.grownBy w29 (some go22) := (by rw [hw]; exact HP28.2); have hp_ : Kd.R Kd.bool 4 w29 w.heap.size (fun _ => True) (.slice (some ⟨go22, 0, none⟩) x7_2.length co11) y951013 := (by rw [hw, Ny951013.out]; exact HP28.1); clear HP28; have n0_ := Aside0.mk (Kd.R_over' (v := (.slice (some ⟨go22, 0, none⟩) x7_2.length co11)) (by (with_reducible repeat (first | apply Kd.R_alloc | apply Kd.R_drewN | apply Kd.R_drew)); exact HO_5.out) (Kd.R_typed HO_7.out) (by decide) hg); have n1_ := Aside0.mk (Kd.R_over' (v := (.slice (some ⟨go22, 0, none⟩) x7_2.length co11)) (by (with_reducible repeat (first | apply Kd.R_alloc | apply Kd.R_drewN | apply Kd.R_drew)); exact HO_6.out) (Kd.R_typed HO_7.out) (by decide) hg); have n2_ := Aside0.mk (hp_); have n3_ := Aside0.mk ((by rw [hw]; exact below_set (HB.out) GB22.out : Below w.heap.size w w29)); clear HO_5; clear HO_6; clear HO_7; clear HB; have HO_5 := n0_; have HO_6 := n1_; have HO_7 := n2_; have HB := n3_; clear n0_ n1_ n2_ n3_; clear hg hw hp_; have p25 : 0 ≤ ((rd t951001 x10_2) : Int) := of_decide_eq_true (by first | (with_reducible assumption) | assumption); have q25 : ((rd t951001 x10_2) : Int) < ((x7_2.length : Int) : Int) := of_decide_eq_true (by first | (with_reducible assumption) | assumption); obtain ⟨hx25_0, hf25_0⟩ := Kd.R_celln false HO_7.out ((rd t951001 x10_2) : Int) p25 q25; replace p25 := eq_true p25; replace q25 := eq_true q25; obtain ⟨hy30_, hz30_⟩ := Kd.R_celln false HO_7.out ((rd t951001 x10_2) : Int) (of_decide_eq_true (by first | (with_reducible assumption) | assumption)) (of_decide_eq_true (by first | (with_reducible assumption) | assumption)); have HP30 := Kd.R_putg HO_7.out ((rd t951001 x10_2) : Int) true) | ((with_reducible refine gate_store (t := 4) (p := 50) rfl ?_); refine store_event (t := 4) (p := 50) (v := ?vo_w31) (w1 := (w29.setCell ⟨go22, ((rd t951001 x10_2) : Int).toNat, none⟩ (.bool true))) ?hg ?ho ?hn ?hr ?_; (case ho => rfl); (case hg => rfl); (case hn => rfl); (case hr => first | (go_simp; done) | (go_simp; rfl)); intro w31 hw; have hg : w29.grownBy w31 (some go22) := (by rw [hw]; exact HP30.2); have hp_ : Kd.R Kd.bool 4 w31 w.heap.size (fun _ => True) (.slice (some ⟨go22, 0, none⟩) x7_2.length co11) y951014 := (by rw [hw, Ny951014.out]; exact HP30.1); clear HP30; have n0_ := Aside0.mk (Kd.R_over' (v := (.slice (some ⟨go22, 0, none⟩) x7_2.length co11)) (by (with_reducible repeat (first | apply Kd.R_alloc | apply Kd.R_drewN | apply Kd.R_drew)); exact HO_5.out) (Kd.R_typed HO_7.out) (by decide) hg); have n1_ := Aside0.mk (Kd.R_over' (v := (.slice (some ⟨go22, 0, none⟩) x7_2.length co11)) (by (with_reducible repeat (first | apply Kd.R_alloc | apply Kd.R_drewN | apply Kd.R_drew)); exact HO_6.out) (Kd.R_typed HO_7.out) (by decide) hg); have n2_ := Aside0.mk (hp_); have n3_ := Aside0.mk ((by rw [hw]; exact below_set (HB.out) GB22.out : Below w.heap.size w w31)); clear HO_5; clear HO_6; clear HO_7; clear HB; have HO_5 := n0_; have HO_6 := n1_; have HO_7 := n2_; have HB := n3_; clear n0_ n1_ n2_ n3_; clear hg hw hp_; have p951015 : 0 ≤ (x10_2 : Int) := of_decide_eq_true (by first | (with_reducible assumption) | assumption); have q951015 : x10_2 < (t951001.length : Int) := of_decide_eq_true (by first | (with_reducible assumption) | assumption); obtain ⟨ad951015, e951015, hx951015_0⟩ := Kd.at_int (Kd.R_reads' HO_5.out).2.2 x10_2 p951015 q951015; obtain rfl : ad951012 = ad951015 := (by injection e951015); replace p951015 := eq_true p951015; replace q951015 := eq_true q951015; obtain ⟨Ao32, co32, eo32⟩ := Kd.R_slice HO_6.out; subst eo32; have p951016 : 0 ≤ ((rd t951001 x10_2) : Int) := of_decide_eq_true (by first | (with_reducible assumption) | assumption); have q951016 : (rd t951001 x10_2) < (t951004.length : Int) := of_decide_eq_true (by first | (with_reducible assumption) | assumption); obtain ⟨ad951016, e951016, hx951016_0⟩ := Kd.at_int (Kd.R_reads' HO_6.out).2.2 (rd t951001 x10_2) p951016 q951016; cases e951016; replace p951016 := eq_true p951016; replace q951016 := eq_true q951016))
                                    (try simp only [← hl7_2])
                                    (try simp only [show (⟨go22, x20_1.toNat, none⟩ : Addr) = (⟨go22, 0, none⟩ : Addr).add x20_1.toNat from (add_plain _ _).symm])
                                    go_roundg k2
                                    case measure => have := HK1.out; have := HK2.out; omega
                                    case rel => exact ⟨(y951014), (rd t951004 (rd t951001 x10_2)), (by first | rfl | (simp; done) | (simp [*]; done)), H', ⟨by have := HK1.out; have := HK2.out; omega⟩, ⟨by (try simp only [hl7_1]); (try simp only [hl7_2]); (with_reducible repeat (first | apply Kd.R_alloc | apply Kd.R_drewN | apply Kd.R_drew)); exact HO_5.out⟩, ⟨by (try simp only [hl7_1]); (try simp only [hl7_2]); (with_reducible repeat (first | apply Kd.R_alloc | apply Kd.R_drewN | apply Kd.R_drew)); exact HO_6.out⟩, ⟨by (try simp only [hl7_1]); (try simp only [hl7_2]); (with_reducible repeat (first | apply Kd.R_alloc | apply Kd.R_drewN | apply Kd.R_drew)); exact HO_7.out⟩, ⟨by repeat (first | (with_reducible first | exact HB.out | apply below_alloc | apply pw_below_drewN | apply below_drew1) | exact HB.out)⟩⟩
                                  · rw [if_neg c26] at H
                                    exact absurd H (by simp)
                                · rw [if_neg c24] at H
                                  exact absurd H (by simp)
                              · rw [if_neg c23] at H
                                exact absurd H (by simp)
                            · rw [if_neg c21] at H
                              exact absurd H (by simp)
                        · rw [if_neg c18] at H
                          exact absurd H (by simp)
                      · rw [if_neg c17] at H
                        exact absurd H (by simp)
              · rw [if_neg c14] at H
                exact absurd H (by simp)
            · rw [if_neg c13] at H
              exact absurd H (by simp)
          · rw [if_neg c12] at H
            have c12b0 : decide (x20_1 < (y951007.length : Int)) = false := decide_eq_false c12
            clear c12
            (try rw [hl7_1] at c12b0)
            obtain rfl := Option.some.inj H
            go_wp2
            go_ret
            exact ⟨by first | rfl | (simp [errW_none, errW_some] <;> rfl) | (simp [*, errW_none, errW_some] <;> rfl), by repeat (first | (with_reducible first | exact HB.out | apply below_alloc | apply pw_below_drewN | apply below_drew1) | exact HB.out)⟩
    · rw [if_neg c6] at H
      exact absurd H (by simp)
  · rw [if_neg c5] at H
    exact absurd H (by simp)

end Go.Proofs.Ytfijnlbkflmkbaa.F
