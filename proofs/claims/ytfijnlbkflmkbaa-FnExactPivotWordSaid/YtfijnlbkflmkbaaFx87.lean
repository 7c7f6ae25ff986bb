/- What spec_PivotWord answers, and that the Go text comes to it: for every world in which the arguments read as told. -/
import Derived.Test.YtfijnlbkflmkbaaFgA
import Derived.Test.YtfijnlbkflmkbaaFx69
namespace Go.Proofs.Ytfijnlbkflmkbaa.F
open Go.RowKit Go.Proofs.YtfijnlbkflmkbaaW.PrintWords Go.Proofs.YtfijnlbkflmkbaaW.PrintLast Go.Proofs.YtfijnlbkflmkbaaW.PrintMore
attribute [local go_sem] max2_int min2_int max_two min_two max_three min_three max_four min_four   -- for this text's walks alone
set_option linter.unusedVariables false
set_option linter.unusedSimpArgs false

/-! ### spec_PivotWord: function 48 -/
mutual
def spec_PivotWord.j0 : Nat → List Int → Int → Int → Int → Bool → Option (List Int × Int)
  | 0, _, _, _, _, _ => none
  | k + 1, x0, x1, x2, x8, x36 => if x36 = true then (spec_PivotWord.j1 k x0 x1 x2 5) else (spec_PivotWord.j1 k x0 x1 x2 x8)
def spec_PivotWord.j1 : Nat → List Int → Int → Int → Int → Option (List Int × Int)
  | 0, _, _, _, _ => none
  | k + 1, x0, x1, x2, x8 => if x8 = 0 then ((spec_l01Places.f k x0 (mn x1 x2)).bind fun bt481010 => ((spec_l01Places.f k x0 (mx x1 x2)).bind fun bt481012 => (if 0 ≤ (wrap64 (bt481010.1 + 1)) then (if (wrap64 (bt481010.1 + 1)) ≤ (x0.length : Int) then ((spec_l01Own.f (x0.take ((wrap64 (bt481010.1 + 1)) : Int).toNat)).bind fun t481015 => (if 0 ≤ (wrap64 (bt481010.2 + 1)) then (if (wrap64 (bt481010.2 + 1)) ≤ bt481012.2 then (if bt481012.2 ≤ (x0.length : Int) then (if t481015.length + ((x0.take (bt481012.2 : Int).toNat).drop ((wrap64 (bt481010.2 + 1)) : Int).toNat).length < 17592186044416 then ((some (t481015 ++ ((x0.take (bt481012.2 : Int).toNat).drop ((wrap64 (bt481010.2 + 1)) : Int).toNat) : List Int)).bind fun y481019 => (if 0 ≤ bt481012.1 then (if bt481012.1 ≤ bt481010.2 then (if bt481010.2 ≤ (x0.length : Int) then (if y481019.length + ((x0.take (bt481010.2 : Int).toNat).drop (bt481012.1 : Int).toNat).length < 17592186044416 then ((some (y481019 ++ ((x0.take (bt481010.2 : Int).toNat).drop (bt481012.1 : Int).toNat) : List Int)).bind fun y481023 => (if 0 ≤ bt481010.2 then (if bt481010.2 < (x0.length : Int) then (if y481023.length < 17592186044416 then ((some (y481023 ++ [rd x0 bt481010.2] : List Int)).bind fun y481027 => (if (wrap64 (bt481010.1 + 1)) ≤ bt481012.1 then (if bt481012.1 ≤ (x0.length : Int) then (if y481027.length + ((x0.take (bt481012.1 : Int).toNat).drop ((wrap64 (bt481010.1 + 1)) : Int).toNat).length < 17592186044416 then ((some (y481027 ++ ((x0.take (bt481012.1 : Int).toNat).drop ((wrap64 (bt481010.1 + 1)) : Int).toNat) : List Int)).bind fun y481031 => (if 0 ≤ bt481012.2 then (if y481031.length + (x0.drop (bt481012.2 : Int).toNat).length < 17592186044416 then ((spec_l01Normal.f k (y481031 ++ (x0.drop (bt481012.2 : Int).toNat))).bind fun t481038 => (some (t481038, 0))) else (none)) else (none))) else (none)) else (none)) else (none))) else (none)) else (none)) else (none))) else (none)) else (none)) else (none)) else (none))) else (none)) else (none)) else (none)) else (none))) else (none)) else (none)))) else (some (([] : List Int), x8))
end
def spec_PivotWord.f (k : Nat) (l0 : List Int) (a1 : Int) (a2 : Int) : Option (List Int × Int) := (spec_l10Code.f k l0 (([a1, a2] : List Int))).bind fun t481004 => (if t481004 = 0 then (if a1 = a2 then (spec_PivotWord.j0 k l0 a1 a2 t481004 true) else ((spec_l01Cross.f k l0).bind fun t481005 => (if 0 ≤ a1 then (if a1 < (t481005.length : Int) then (if 0 ≤ a2 then (if a2 < ((rd_L1 t481005 a1).length : Int) then (spec_PivotWord.j0 k l0 a1 a2 t481004 ((rd (rd_L1 t481005 a1) a2) == 0)) else (none)) else (none)) else (none)) else (none)))) else (spec_PivotWord.j0 k l0 a1 a2 t481004 false))
theorem spec_PivotWord.mono_l : ∀ k, (∀ y0 y1 y2 y3 y4, LeO (spec_PivotWord.j0 k y0 y1 y2 y3 y4) (spec_PivotWord.j0 (k + 1) y0 y1 y2 y3 y4)) ∧ (∀ y0 y1 y2 y3, LeO (spec_PivotWord.j1 k y0 y1 y2 y3) (spec_PivotWord.j1 (k + 1) y0 y1 y2 y3))
  | 0 => ⟨fun _ _ _ _ _ r h => by simp [spec_PivotWord.j0] at h, fun _ _ _ _ r h => by simp [spec_PivotWord.j1] at h⟩
  | k + 1 => by
    obtain ⟨ih0, ih1⟩ := spec_PivotWord.mono_l k
    refine ⟨?_, ?_⟩
    · intro y0 y1 y2 y3 y4
      unfold spec_PivotWord.j0
      repeat' first
      | (with_reducible exact ih0 _ _ _ _ _)
      | (with_reducible exact ih1 _ _ _ _)
      | (with_reducible exact spec_l01Cross.mono _ _)
      | (with_reducible exact spec_l01Normal.mono _ _)
      | (with_reducible exact spec_l01Places.mono _ _ _)
      | (with_reducible exact spec_l10Code.mono _ _ _)
      | (with_reducible exact LeO.refl _)
      | (with_reducible exact LeO.none _)
      | (with_reducible refine LeO.ite ?_ ?_)
      | (with_reducible refine LeO.bind ?_ (fun _ => ?_))
      | exact ih0 _ _ _ _ _
      | exact ih1 _ _ _ _
      | exact spec_l01Cross.mono _ _
      | exact spec_l01Normal.mono _ _
      | exact spec_l01Places.mono _ _ _
      | exact spec_l10Code.mono _ _ _
      | exact LeO.none _
      | refine LeO.ite ?_ ?_
      | refine LeO.bind ?_ (fun _ => ?_)
    · intro y0 y1 y2 y3
      unfold spec_PivotWord.j1
      repeat' first
      | (with_reducible exact ih0 _ _ _ _ _)
      | (with_reducible exact ih1 _ _ _ _)
      | (with_reducible exact spec_l01Cross.mono _ _)
      | (with_reducible exact spec_l01Normal.mono _ _)
      | (with_reducible exact spec_l01Places.mono _ _ _)
      | (with_reducible exact spec_l10Code.mono _ _ _)
      | (with_reducible exact LeO.refl _)
      | (with_reducible exact LeO.none _)
      | (with_reducible refine LeO.ite ?_ ?_)
      | (with_reducible refine LeO.bind ?_ (fun _ => ?_))
      | exact ih0 _ _ _ _ _
      | exact ih1 _ _ _ _
      | exact spec_l01Cross.mono _ _
      | exact spec_l01Normal.mono _ _
      | exact spec_l01Places.mono _ _ _
      | exact spec_l10Code.mono _ _ _
      | exact LeO.none _
      | refine LeO.ite ?_ ?_
      | refine LeO.bind ?_ (fun _ => ?_)
theorem spec_PivotWord.mono : ∀ a0 a1 a2 k, LeO (spec_PivotWord.f k a0 a1 a2) (spec_PivotWord.f (k + 1) a0 a1 a2) := by
  intro a0 a1 a2 k
  obtain ⟨ih0, ih1⟩ := spec_PivotWord.mono_l k
  unfold spec_PivotWord.f
  repeat' first
      | (with_reducible exact ih0 _ _ _ _ _)
      | (with_reducible exact ih1 _ _ _ _)
      | (with_reducible exact spec_l01Cross.mono _ _)
      | (with_reducible exact spec_l01Normal.mono _ _)
      | (with_reducible exact spec_l01Places.mono _ _ _)
      | (with_reducible exact spec_l10Code.mono _ _ _)
      | (with_reducible exact LeO.refl _)
      | (with_reducible exact LeO.none _)
      | (with_reducible refine LeO.ite ?_ ?_)
      | (with_reducible refine LeO.bind ?_ (fun _ => ?_))
      | exact ih0 _ _ _ _ _
      | exact ih1 _ _ _ _
      | exact spec_l01Cross.mono _ _
      | exact spec_l01Normal.mono _ _
      | exact spec_l01Places.mono _ _ _
      | exact spec_l10Code.mono _ _ _
      | exact LeO.none _
      | refine LeO.ite ?_ ?_
      | refine LeO.bind ?_ (fun _ => ?_)
def spec_PivotWord.T8 : Bool × List (List Nat × List Nat) := (true, [([], []), ([], []), ([1], [1]), ([0, 2], [0, 2]), ([3], [3]), ([], []), ([], []), ([6], [6]), ([], []), ([5, 7, 8], [5, 7, 8]), ([4, 9, 4], [4, 9]), ([10, 10, 0, 1, 2, 3, 4, 5, 6, 7, 8, 9, 10], [10])])
def spec_PivotWord.B8 : List Nat := [0, 0, 2, 7, 15, 0, 0, 64, 0, 480, 1023, 2047]
theorem spec_PivotWord.tab8 : rtab .any (opsOf Try.f48 8) = spec_PivotWord.T8 := by kernel_rfl
theorem spec_PivotWord.bits8 : waitsOk spec_PivotWord.T8.2 spec_PivotWord.B8 = true := by kernel_rfl
set_option maxHeartbeats 8000000 in
set_option maxRecDepth 100000 in
theorem spec_PivotWord.calls (k : Nat) (A0 : Option Addr) (c0 : Nat) (l0 : List Int) (a1 : Int) (a2 : Int) (r1 : List Int) (r2 : Int) (w : World) (hr0 : Kd.C (Kd.int .i64) w A0 l0.length l0) (hc0 : l0.length ≤ c0) (h : spec_PivotWord.f k l0 a1 a2 = some (r1, r2)) :
    Calls Try.prog 48 #[.slice A0 l0.length c0, .int .i64 a1, .int .i64 a2] w fun e w' => ∃ v0_ : Value, e = .returned (.tuple #[v0_, .int .i64 r2]) ∧ Kd.R (Kd.int .i64) 2 w' w.heap.size (fun _ => True) v0_ r1 ∧ Below w.heap.size w w' := by
  have HR0 := Aside0.mk hr0
  have HC0 := Aside0.mk hc0
  clear hr0 hc0
  have HB := Aside0.mk (Below.refl w.heap.size w)
  have H : ((spec_l10Code.f k l0 (([a1, a2] : List Int))).bind fun t481004 => (if t481004 = 0 then (if a1 = a2 then (spec_PivotWord.j0 k l0 a1 a2 t481004 true) else ((spec_l01Cross.f k l0).bind fun t481005 => (if 0 ≤ a1 then (if a1 < (t481005.length : Int) then (if 0 ≤ a2 then (if a2 < ((rd_L1 t481005 a1).length : Int) then (spec_PivotWord.j0 k l0 a1 a2 t481004 ((rd (rd_L1 t481005 a1) a2) == 0)) else (none)) else (none)) else (none)) else (none)))) else (spec_PivotWord.j0 k l0 a1 a2 t481004 false))) = some (r1, r2) := h
  clear h
  obtain ⟨y481001, hy481001⟩ : ∃ y_ : List Int, y_ = (([a1, a2] : List Int)) := ⟨_, rfl⟩
  replace H : ((spec_l10Code.f k l0 y481001).bind fun t481004 => (if t481004 = 0 then (if a1 = a2 then (spec_PivotWord.j0 k l0 a1 a2 t481004 true) else ((spec_l01Cross.f k l0).bind fun t481005 => (if 0 ≤ a1 then (if a1 < (t481005.length : Int) then (if 0 ≤ a2 then (if a2 < ((rd_L1 t481005 a1).length : Int) then (spec_PivotWord.j0 k l0 a1 a2 t481004 ((rd (rd_L1 t481005 a1) a2) == 0)) else (none)) else (none)) else (none)) else (none)))) else (spec_PivotWord.j0 k l0 a1 a2 t481004 false))) = some (r1, r2) := by first | (rw [hy481001]; with_reducible exact H) | (have H2_ := (Option.bind_some _ _).symm.trans H; rw [hy481001]; with_reducible exact H2_) | (have H2_ := (Option.bind_some _ _).symm.trans H; with_reducible exact H2_) | with_reducible exact H | (rw [hy481001]; exact H) | exact H
  have Ny481001 := Aside0.mk hy481001
  clear hy481001
  replace H := Option.bind_eq_some_iff.mp H
  obtain ⟨t481004, A40, H⟩ := H
  replace H : (if t481004 = 0 then (if a1 = a2 then (spec_PivotWord.j0 k l0 a1 a2 t481004 true) else ((spec_l01Cross.f k l0).bind fun t481005 => (if 0 ≤ a1 then (if a1 < (t481005.length : Int) then (if 0 ≤ a2 then (if a2 < ((rd_L1 t481005 a1).length : Int) then (spec_PivotWord.j0 k l0 a1 a2 t481004 ((rd (rd_L1 t481005 a1) a2) == 0)) else (none)) else (none)) else (none)) else (none)))) else (spec_PivotWord.j0 k l0 a1 a2 t481004 false)) = some (r1, r2) := H
  have A4 := Aside0.mk A40
  clear A40
  have HC5 := Aside0.mk H
  clear H
  go_enter Try.func48, Try.ntmps48
  go_upto_region 2 with (first | ((with_reducible refine gate_dst (N := 17) rfl ?_); refine Kd.R_lit (Kd.int .i64) _ 2 ?hg (N := 17) ?hd (xs := ([a1, a2] : List Int)) (inner := [.int .i64 a1, .int .i64 a2]) (ok := fun _ => True) (okp := fun _ => True) ?hr ?hp (fun _ hk => hk) trivial (Below.refl _ _) (Nat.le_refl _) (by simp) ?_; (case hd => rfl); (case hg => rfl); (case hr => first | (go_simp; done) | (go_simp; rfl)); (case hp => exact (Reps.one (show Kd.M (Kd.int .i64) _ _ _ a1 [.int .i64 a1] from rfl) (Reps.one (show Kd.M (Kd.int .i64) _ _ _ a2 [.int .i64 a2] from rfl) (Reps.none _ _)))); intro v481002 w6 ho7 hb hg_ hnew_; clear hg_ hnew_; (first | rw [← Ny481001.out] at ho7 | (simp only [Int.reduceToNat] at ho7; rw [← Ny481001.out] at ho7)); have n0_ := Aside0.mk (Kd.R_lower ho7 (below_size (by repeat (first | (with_reducible first | exact HB.out | apply below_alloc | apply pw_below_drewN | apply below_drew1) | exact HB.out)))); have n1_ := Aside0.mk (below_step (by repeat (first | (with_reducible first | exact HB.out | apply below_alloc | apply pw_below_drewN | apply below_drew1) | exact HB.out)) hb); clear HB; have HO481003 := n0_; have HB := n1_; clear n0_ n1_; clear hb ho7; obtain ⟨Ao8, co8, eo8⟩ := Kd.R_slice HO481003.out; subst eo8) | ((with_reducible refine gate_callee (f := 98) rfl ?_); refine goesL_ (some 18) rfl rfl Try.func98 (by kernel_rfl) rfl #[.slice A0 l0.length c0, .slice Ao8 y481001.length co8] rfl (by (try simp only [List.map_toArray, List.map_cons, List.map_nil]); first | done | rfl | (simp only [List.length_drop, List.length_take]; rfl)) ?_; (with_reducible refine (spec_l10Code.calls k _ _ l0 _ _ y481001 t481004 _ ?side1 ?side2 ?side3 ?side4 A4.out).mono ?_); (case side1 => repeat (first | exact (Kd.C_below HR0.out HB.out) | (with_reducible refine Kd.C_alloc ?_ _) | (with_reducible refine Kd.C_drewN ?_ _) | (with_reducible refine Kd.C_drew ?_))); (case side2 => exact HC0.out); (case side3 => repeat (first | exact (Kd.R_reads' HO481003.out).2.2 | (with_reducible refine Kd.C_alloc ?_ _) | (with_reducible refine Kd.C_drewN ?_ _) | (with_reducible refine Kd.C_drew ?_))); (case side4 => exact (Kd.R_reads' HO481003.out).2.1); rintro e w9 ⟨rfl, hb⟩; refine ⟨_, rfl, ?_⟩; have n0_ := Aside0.mk (Kd.R_below (by (with_reducible repeat (first | apply Kd.R_alloc | apply Kd.R_drewN | apply Kd.R_drew)); exact HO481003.out) hb); have n1_ := Aside0.mk (below_step (by repeat (first | (with_reducible first | exact HB.out | apply below_alloc | apply pw_below_drewN | apply below_drew1) | exact HB.out)) hb); clear HO481003; clear HB; have HO481003 := n0_; have HB := n1_; clear n0_ n1_; (try clear hb); (try clear hb2); (try clear hk); (try clear hi)))
  (try simp only [Act.put, List.setIfInBounds_toArray, List.set_cons_zero, List.set_cons_succ])
  go_cut [36] (fun v36 wc => ∃ (kq : Nat) (x36_4 : Bool), v36 = .bool x36_4 ∧ Aside0 (spec_PivotWord.j0 kq l0 a1 a2 t481004 x36_4 = some (r1, r2)) ∧ Aside0 (kq ≤ k) ∧ Aside0 (Below w.heap.size w wc))
  case first =>
    have H := HC5.out
    clear HC5
    by_cases c10 : t481004 = 0
    · rw [if_pos c10] at H
      have c10b0 : (t481004 == 0) = true := beq_iff_eq.mpr c10
      have c10b1 : (t481004 != 0) = false := bne_eq_false_iff_eq.mpr c10
      clear c10
      (first | rw [c10b0] | (simp only [i64_w, i32_w]; rw [c10b0]) | skip)
      by_cases c11 : a1 = a2
      · rw [if_pos c11] at H
        have c11b0 : (a1 == a2) = true := beq_iff_eq.mpr c11
        have c11b1 : (a1 != a2) = false := bne_eq_false_iff_eq.mpr c11
        clear c11
        have H' := Aside0.mk H
        clear H
        go_wp2
        go_meet
        case rel => exact ⟨_, (true), (by first | rfl | (simp; done) | (simp [*]; done)), H', ⟨by first | omega | exact Nat.le_refl _⟩, ⟨by repeat (first | (with_reducible first | exact HB.out | apply below_alloc | apply pw_below_drewN | apply below_drew1) | exact HB.out)⟩⟩
      · rw [if_neg c11] at H
        have c11b0 : (a1 == a2) = false := beq_eq_false_iff_ne.mpr c11
        have c11b1 : (a1 != a2) = true := bne_iff_ne.mpr c11
        replace H := Option.bind_eq_some_iff.mp H
        obtain ⟨t481005, A120, H⟩ := H
        replace H : (if 0 ≤ a1 then (if a1 < (t481005.length : Int) then (if 0 ≤ a2 then (if a2 < ((rd_L1 t481005 a1).length : Int) then (spec_PivotWord.j0 k l0 a1 a2 t481004 ((rd (rd_L1 t481005 a1) a2) == 0)) else (none)) else (none)) else (none)) else (none)) = some (r1, r2) := H
        have A12 := Aside0.mk A120
        clear A120
        by_cases c13 : 0 ≤ a1
        · rw [if_pos c13] at H
          have c13b0 : decide (0 ≤ a1) = true := decide_eq_true c13
          clear c13
          by_cases c14 : a1 < (t481005.length : Int)
          · rw [if_pos c14] at H
            have c14b0 : decide (a1 < (t481005.length : Int)) = true := decide_eq_true c14
            clear c14
            by_cases c15 : 0 ≤ a2
            · rw [if_pos c15] at H
              have c15b0 : decide (0 ≤ a2) = true := decide_eq_true c15
              clear c15
              by_cases c16 : a2 < ((rd_L1 t481005 a1).length : Int)
              · rw [if_pos c16] at H
                have c16b0 : decide (a2 < ((rd_L1 t481005 a1).length : Int)) = true := decide_eq_true c16
                clear c16
                have H' := Aside0.mk H
                clear H
                go_wp2_with (first | (go_at_call 90; (with_reducible refine (spec_l01Cross.calls k _ _ l0 t481005 _ ?side1 ?side2 A12.out).mono ?_); (case side1 => repeat (first | exact (Kd.C_below HR0.out HB.out) | (with_reducible refine Kd.C_alloc ?_ _) | (with_reducible refine Kd.C_drewN ?_ _) | (with_reducible refine Kd.C_drew ?_))); (case side2 => exact HC0.out); rintro e w17 ⟨v481006, rfl, ho0, hb⟩; have n0_ := Aside0.mk (Kd.R_below (by (with_reducible repeat (first | apply Kd.R_alloc | apply Kd.R_drewN | apply Kd.R_drew)); exact HO481003.out) hb); have n1_ := Aside0.mk (Kd.S_lower (Kd.S_new' ho0 (Kd.R_lt (by (with_reducible repeat (first | apply Kd.R_alloc | apply Kd.R_drewN | apply Kd.R_drew)); exact HO481003.out))) (below_size (by repeat (first | (with_reducible first | exact HB.out | apply below_alloc | apply pw_below_drewN | apply below_drew1) | exact HB.out)))); have n2_ := Aside0.mk (below_step (by repeat (first | (with_reducible first | exact HB.out | apply below_alloc | apply pw_below_drewN | apply below_drew1) | exact HB.out)) hb); clear HO481003; clear HB; have HO481003 := n0_; have HO481007 := n1_; have HB := n2_; clear n0_ n1_ n2_; (try clear hb); (try clear hb2); (try clear hk); (try clear hi); (try clear ho0); obtain ⟨Ao18, co18, eo18⟩ := Kd.S_slice HO481007.out; subst eo18; have p481008 : 0 ≤ (a1 : Int) := of_decide_eq_true (by first | (with_reducible assumption) | assumption); have q481008 : a1 < (t481005.length : Int) := of_decide_eq_true (by first | (with_reducible assumption) | assumption); obtain ⟨ad481008, A481008_0, c481008_0, e481008, hx481008_0, hl481008_0, hi481008_0⟩ := at_L1 (Kd.S_reads' HO481007.out).2.2 a1 p481008 q481008; cases e481008; obtain ⟨ce481008, hce481008, hMe481008, hcc481008⟩ := Kd.S_get HO481007.out [] a1 p481008 (by first | exact q481008 | exact of_decide_eq_true (by first | (with_reducible assumption) | assumption) | (have e_ := (Kd.S_reads' HO481007.out).1; omega)); obtain ⟨ve481008_0, rfl, ge481008_0⟩ := hMe481008; have hv481008_0 := hcc481008 0 _ rfl; rw [Nat.add_zero, show ((Kd.slice 2 (Kd.int .i64))).sz = 1 from rfl, Nat.mul_one] at hv481008_0; replace hv481008_0 := Option.some.inj (hv481008_0.symm.trans hx481008_0); rw [hv481008_0] at ge481008_0; have HL481008_0 := Aside0.mk (show Kd.R (Kd.int .i64) 2 _ _ _ _ (rd_L1 t481005 a1) from ge481008_0); clear hv481008_0 ge481008_0; clear hcc481008 hce481008; have HR481008_0 := Aside0.mk hi481008_0; have HC481008_0 := Aside0.mk hl481008_0; clear hi481008_0 hl481008_0; replace p481008 := eq_true p481008; replace q481008 := eq_true q481008; have p481009 : 0 ≤ (a2 : Int) := of_decide_eq_true (by first | (with_reducible assumption) | assumption); have q481009 : a2 < ((rd_L1 t481005 a1).length : Int) := of_decide_eq_true (by first | (with_reducible assumption) | assumption); obtain ⟨ad481009, e481009, hx481009_0⟩ := Kd.at_int (by repeat (first | (with_reducible exact HR481008_0.out) | (with_reducible refine Kd.C_alloc ?_ _) | (with_reducible refine Kd.C_drewN ?_ _) | (with_reducible refine Kd.C_drew ?_) | exact HR481008_0.out)) a2 p481009 q481009; cases e481009; replace p481009 := eq_true p481009; replace q481009 := eq_true q481009))
                go_meet
                case rel => exact ⟨_, (((rd (rd_L1 t481005 a1) a2) == 0)), (by first | rfl | (simp; done) | (simp [*]; done)), H', ⟨by first | omega | exact Nat.le_refl _⟩, ⟨by repeat (first | (with_reducible first | exact HB.out | apply below_alloc | apply pw_below_drewN | apply below_drew1) | exact HB.out)⟩⟩
              · rw [if_neg c16] at H
                exact absurd H (by simp)
            · rw [if_neg c15] at H
              exact absurd H (by simp)
          · rw [if_neg c14] at H
            exact absurd H (by simp)
        · rw [if_neg c13] at H
          exact absurd H (by simp)
    · rw [if_neg c10] at H
      have c10b0 : (t481004 == 0) = false := beq_eq_false_iff_ne.mpr c10
      have c10b1 : (t481004 != 0) = true := bne_iff_ne.mpr c10
      (first | rw [c10b0] | (simp only [i64_w, i32_w]; rw [c10b0]) | skip)
      have H' := Aside0.mk H
      clear H
      go_wp2
      go_meet
      case rel => exact ⟨_, (false), (by first | rfl | (simp; done) | (simp [*]; done)), H', ⟨by first | omega | exact Nat.le_refl _⟩, ⟨by repeat (first | (with_reducible first | exact HB.out | apply below_alloc | apply pw_below_drewN | apply below_drew1) | exact HB.out)⟩⟩
  case rest =>
    clear HC5
    try clear c1
    try clear p2
    try clear c4
    try clear p4
    try clear q4
    try clear hx4
    try clear c9
    try clear c10
    try clear c10b0
    try clear c10b1
    try clear c11
    try clear c11b0
    try clear c11b1
    try clear c13
    try clear c13b0
    try clear c14
    try clear c14b0
    try clear c15
    try clear c15b0
    try clear c16
    try clear c16b0
    try clear hx481008_0
    try clear hx481009_0
    try clear p481008
    try clear p481009
    try clear q481008
    try clear q481009
    obtain ⟨kq, x36_4, rfl, HA, HJ4, HB⟩ := hcut
    cases kq with
    | zero => exact absurd HA.out (by simp [spec_PivotWord.j0])
    | succ kj4 =>
      have H := HA.out
      clear HA
      simp only [spec_PivotWord.j0] at H
      have HC19 := Aside0.mk H
      clear H
      go_upto_if 36 with (fail)
      go_cut [8] (fun v8 wc => ∃ (kq : Nat) (x8_18 : Int), v8 = .int .i64 x8_18 ∧ Aside0 (spec_PivotWord.j1 kq l0 a1 a2 x8_18 = some (r1, r2)) ∧ Aside0 (kq ≤ kj4) ∧ Aside0 (Below w.heap.size w wc))
      case first =>
        have H := HC19.out
        clear HC19
        by_cases c20 : x36_4 = true
        · subst c20
          have H1 : (spec_PivotWord.j1 kj4 l0 a1 a2 5) = some (r1, r2) := by rw [if_pos rfl] at H; exact H
          clear H
          have H := H1
          clear H1
          have H' := Aside0.mk H
          clear H
          go_wp2
          go_meet
          case rel => exact ⟨_, (5), (by first | rfl | (simp; done) | (simp [*]; done)), H', ⟨by have := HJ4.out; first | omega | exact Nat.le_refl _⟩, ⟨by repeat (first | (with_reducible first | exact HB.out | apply below_alloc | apply pw_below_drewN | apply below_drew1) | exact HB.out)⟩⟩
        · replace c20 := Bool.eq_false_iff.mpr c20
          subst c20
          have H1 : (spec_PivotWord.j1 kj4 l0 a1 a2 t481004) = some (r1, r2) := by rw [if_neg (show ¬ (false = true) by decide)] at H; exact H
          clear H
          have H := H1
          clear H1
          have H' := Aside0.mk H
          clear H
          go_wp2
          go_meet
          case rel => exact ⟨_, (t481004), (by first | rfl | (simp; done) | (simp [*]; done)), H', ⟨by have := HJ4.out; first | omega | exact Nat.le_refl _⟩, ⟨by repeat (first | (with_reducible first | exact HB.out | apply below_alloc | apply pw_below_drewN | apply below_drew1) | exact HB.out)⟩⟩
      case rest =>
        clear HC19
        try clear c1
        try clear c2
        try clear p2
        try clear c4
        try clear p4
        try clear q4
        try clear hx4
        try clear c9
        try clear c10
        try clear c10b0
        try clear c10b1
        try clear c11
        try clear c11b0
        try clear c11b1
        try clear c13
        try clear c13b0
        try clear c14
        try clear c14b0
        try clear c15
        try clear c15b0
        try clear c16
        try clear c16b0
        try clear c20
        try clear hx481008_0
        try clear hx481009_0
        try clear p2
        try clear p4
        try clear p481008
        try clear p481009
        try clear q4
        try clear q481008
        try clear q481009
        obtain ⟨kq, x8_18, rfl, HA, HJ18, HB⟩ := hcut
        cases kq with
        | zero => exact absurd HA.out (by simp [spec_PivotWord.j1])
        | succ kj18 =>
          have H := HA.out
          clear HA
          simp only [spec_PivotWord.j1] at H
          by_cases c21 : x8_18 = 0
          · rw [if_pos c21] at H
            have c21b0 : (x8_18 == 0) = true := beq_iff_eq.mpr c21
            have c21b1 : (x8_18 != 0) = false := bne_eq_false_iff_eq.mpr c21
            clear c21
            obtain ⟨ji22, hji22⟩ : ∃ j_ : Int, (mn a1 a2) = j_ := ⟨_, rfl⟩
            replace H : ((spec_l01Places.f kj18 l0 (ji22)).bind fun bt481010 => ((spec_l01Places.f kj18 l0 (mx a1 a2)).bind fun bt481012 => (if 0 ≤ (wrap64 (bt481010.1 + 1)) then (if (wrap64 (bt481010.1 + 1)) ≤ (l0.length : Int) then ((spec_l01Own.f (l0.take ((wrap64 (bt481010.1 + 1)) : Int).toNat)).bind fun t481015 => (if 0 ≤ (wrap64 (bt481010.2 + 1)) then (if (wrap64 (bt481010.2 + 1)) ≤ bt481012.2 then (if bt481012.2 ≤ (l0.length : Int) then (if t481015.length + ((l0.take (bt481012.2 : Int).toNat).drop ((wrap64 (bt481010.2 + 1)) : Int).toNat).length < 17592186044416 then ((some (t481015 ++ ((l0.take (bt481012.2 : Int).toNat).drop ((wrap64 (bt481010.2 + 1)) : Int).toNat) : List Int)).bind fun y481019 => (if 0 ≤ bt481012.1 then (if bt481012.1 ≤ bt481010.2 then (if bt481010.2 ≤ (l0.length : Int) then (if y481019.length + ((l0.take (bt481010.2 : Int).toNat).drop (bt481012.1 : Int).toNat).length < 17592186044416 then ((some (y481019 ++ ((l0.take (bt481010.2 : Int).toNat).drop (bt481012.1 : Int).toNat) : List Int)).bind fun y481023 => (if 0 ≤ bt481010.2 then (if bt481010.2 < (l0.length : Int) then (if y481023.length < 17592186044416 then ((some (y481023 ++ [rd l0 bt481010.2] : List Int)).bind fun y481027 => (if (wrap64 (bt481010.1 + 1)) ≤ bt481012.1 then (if bt481012.1 ≤ (l0.length : Int) then (if y481027.length + ((l0.take (bt481012.1 : Int).toNat).drop ((wrap64 (bt481010.1 + 1)) : Int).toNat).length < 17592186044416 then ((some (y481027 ++ ((l0.take (bt481012.1 : Int).toNat).drop ((wrap64 (bt481010.1 + 1)) : Int).toNat) : List Int)).bind fun y481031 => (if 0 ≤ bt481012.2 then (if y481031.length + (l0.drop (bt481012.2 : Int).toNat).length < 17592186044416 then ((spec_l01Normal.f kj18 (y481031 ++ (l0.drop (bt481012.2 : Int).toNat))).bind fun t481038 => (some (t481038, 0))) else (none)) else (none))) else (none)) else (none)) else (none))) else (none)) else (none)) else (none))) else (none)) else (none)) else (none)) else (none))) else (none)) else (none)) else (none)) else (none))) else (none)) else (none)))) = some (r1, r2) := by first | (rw [hji22] at H; exact H) | (simp only [hji22] at H ⊢; exact H)
            have hji22_ : (if a2 < a1 then a2 else a1) = ji22 := hji22
            replace H := Option.bind_eq_some_iff.mp H
            obtain ⟨⟨t481010, t481011⟩, A230, H⟩ := H
            replace H : ((spec_l01Places.f kj18 l0 (mx a1 a2)).bind fun bt481012 => (if 0 ≤ (wrap64 (t481010 + 1)) then (if (wrap64 (t481010 + 1)) ≤ (l0.length : Int) then ((spec_l01Own.f (l0.take ((wrap64 (t481010 + 1)) : Int).toNat)).bind fun t481015 => (if 0 ≤ (wrap64 (t481011 + 1)) then (if (wrap64 (t481011 + 1)) ≤ bt481012.2 then (if bt481012.2 ≤ (l0.length : Int) then (if t481015.length + ((l0.take (bt481012.2 : Int).toNat).drop ((wrap64 (t481011 + 1)) : Int).toNat).length < 17592186044416 then ((some (t481015 ++ ((l0.take (bt481012.2 : Int).toNat).drop ((wrap64 (t481011 + 1)) : Int).toNat) : List Int)).bind fun y481019 => (if 0 ≤ bt481012.1 then (if bt481012.1 ≤ t481011 then (if t481011 ≤ (l0.length : Int) then (if y481019.length + ((l0.take (t481011 : Int).toNat).drop (bt481012.1 : Int).toNat).length < 17592186044416 then ((some (y481019 ++ ((l0.take (t481011 : Int).toNat).drop (bt481012.1 : Int).toNat) : List Int)).bind fun y481023 => (if 0 ≤ t481011 then (if t481011 < (l0.length : Int) then (if y481023.length < 17592186044416 then ((some (y481023 ++ [rd l0 t481011] : List Int)).bind fun y481027 => (if (wrap64 (t481010 + 1)) ≤ bt481012.1 then (if bt481012.1 ≤ (l0.length : Int) then (if y481027.length + ((l0.take (bt481012.1 : Int).toNat).drop ((wrap64 (t481010 + 1)) : Int).toNat).length < 17592186044416 then ((some (y481027 ++ ((l0.take (bt481012.1 : Int).toNat).drop ((wrap64 (t481010 + 1)) : Int).toNat) : List Int)).bind fun y481031 => (if 0 ≤ bt481012.2 then (if y481031.length + (l0.drop (bt481012.2 : Int).toNat).length < 17592186044416 then ((spec_l01Normal.f kj18 (y481031 ++ (l0.drop (bt481012.2 : Int).toNat))).bind fun t481038 => (some (t481038, 0))) else (none)) else (none))) else (none)) else (none)) else (none))) else (none)) else (none)) else (none))) else (none)) else (none)) else (none)) else (none))) else (none)) else (none)) else (none)) else (none))) else (none)) else (none))) = some (r1, r2) := H
            have A23 := Aside0.mk A230
            clear A230
            obtain ⟨ji24, hji24⟩ : ∃ j_ : Int, (mx a1 a2) = j_ := ⟨_, rfl⟩
            replace H : ((spec_l01Places.f kj18 l0 (ji24)).bind fun bt481012 => (if 0 ≤ (wrap64 (t481010 + 1)) then (if (wrap64 (t481010 + 1)) ≤ (l0.length : Int) then ((spec_l01Own.f (l0.take ((wrap64 (t481010 + 1)) : Int).toNat)).bind fun t481015 => (if 0 ≤ (wrap64 (t481011 + 1)) then (if (wrap64 (t481011 + 1)) ≤ bt481012.2 then (if bt481012.2 ≤ (l0.length : Int) then (if t481015.length + ((l0.take (bt481012.2 : Int).toNat).drop ((wrap64 (t481011 + 1)) : Int).toNat).length < 17592186044416 then ((some (t481015 ++ ((l0.take (bt481012.2 : Int).toNat).drop ((wrap64 (t481011 + 1)) : Int).toNat) : List Int)).bind fun y481019 => (if 0 ≤ bt481012.1 then (if bt481012.1 ≤ t481011 then (if t481011 ≤ (l0.length : Int) then (if y481019.length + ((l0.take (t481011 : Int).toNat).drop (bt481012.1 : Int).toNat).length < 17592186044416 then ((some (y481019 ++ ((l0.take (t481011 : Int).toNat).drop (bt481012.1 : Int).toNat) : List Int)).bind fun y481023 => (if 0 ≤ t481011 then (if t481011 < (l0.length : Int) then (if y481023.length < 17592186044416 then ((some (y481023 ++ [rd l0 t481011] : List Int)).bind fun y481027 => (if (wrap64 (t481010 + 1)) ≤ bt481012.1 then (if bt481012.1 ≤ (l0.length : Int) then (if y481027.length + ((l0.take (bt481012.1 : Int).toNat).drop ((wrap64 (t481010 + 1)) : Int).toNat).length < 17592186044416 then ((some (y481027 ++ ((l0.take (bt481012.1 : Int).toNat).drop ((wrap64 (t481010 + 1)) : Int).toNat) : List Int)).bind fun y481031 => (if 0 ≤ bt481012.2 then (if y481031.length + (l0.drop (bt481012.2 : Int).toNat).length < 17592186044416 then ((spec_l01Normal.f kj18 (y481031 ++ (l0.drop (bt481012.2 : Int).toNat))).bind fun t481038 => (some (t481038, 0))) else (none)) else (none))) else (none)) else (none)) else (none))) else (none)) else (none)) else (none))) else (none)) else (none)) else (none)) else (none))) else (none)) else (none)) else (none)) else (none))) else (none)) else (none))) = some (r1, r2) := by first | (rw [hji24] at H; exact H) | (simp only [hji24] at H ⊢; exact H)
            (try rw [hji24] at A23)
            have hji24_ : (if a1 < a2 then a2 else a1) = ji24 := hji24
            replace H := Option.bind_eq_some_iff.mp H
            obtain ⟨⟨t481012, t481013⟩, A250, H⟩ := H
            replace H : (if 0 ≤ (wrap64 (t481010 + 1)) then (if (wrap64 (t481010 + 1)) ≤ (l0.length : Int) then ((spec_l01Own.f (l0.take ((wrap64 (t481010 + 1)) : Int).toNat)).bind fun t481015 => (if 0 ≤ (wrap64 (t481011 + 1)) then (if (wrap64 (t481011 + 1)) ≤ t481013 then (if t481013 ≤ (l0.length : Int) then (if t481015.length + ((l0.take (t481013 : Int).toNat).drop ((wrap64 (t481011 + 1)) : Int).toNat).length < 17592186044416 then ((some (t481015 ++ ((l0.take (t481013 : Int).toNat).drop ((wrap64 (t481011 + 1)) : Int).toNat) : List Int)).bind fun y481019 => (if 0 ≤ t481012 then (if t481012 ≤ t481011 then (if t481011 ≤ (l0.length : Int) then (if y481019.length + ((l0.take (t481011 : Int).toNat).drop (t481012 : Int).toNat).length < 17592186044416 then ((some (y481019 ++ ((l0.take (t481011 : Int).toNat).drop (t481012 : Int).toNat) : List Int)).bind fun y481023 => (if 0 ≤ t481011 then (if t481011 < (l0.length : Int) then (if y481023.length < 17592186044416 then ((some (y481023 ++ [rd l0 t481011] : List Int)).bind fun y481027 => (if (wrap64 (t481010 + 1)) ≤ t481012 then (if t481012 ≤ (l0.length : Int) then (if y481027.length + ((l0.take (t481012 : Int).toNat).drop ((wrap64 (t481010 + 1)) : Int).toNat).length < 17592186044416 then ((some (y481027 ++ ((l0.take (t481012 : Int).toNat).drop ((wrap64 (t481010 + 1)) : Int).toNat) : List Int)).bind fun y481031 => (if 0 ≤ t481013 then (if y481031.length + (l0.drop (t481013 : Int).toNat).length < 17592186044416 then ((spec_l01Normal.f kj18 (y481031 ++ (l0.drop (t481013 : Int).toNat))).bind fun t481038 => (some (t481038, 0))) else (none)) else (none))) else (none)) else (none)) else (none))) else (none)) else (none)) else (none))) else (none)) else (none)) else (none)) else (none))) else (none)) else (none)) else (none)) else (none))) else (none)) else (none)) = some (r1, r2) := H
            have A25 := Aside0.mk A250
            clear A250
            obtain ⟨ji26, hji26⟩ : ∃ j_ : Int, (wrap64 (t481010 + 1)) = j_ := ⟨_, rfl⟩
            replace H : (if 0 ≤ (ji26) then (if (ji26) ≤ (l0.length : Int) then ((spec_l01Own.f (l0.take ((ji26) : Int).toNat)).bind fun t481015 => (if 0 ≤ (wrap64 (t481011 + 1)) then (if (wrap64 (t481011 + 1)) ≤ t481013 then (if t481013 ≤ (l0.length : Int) then (if t481015.length + ((l0.take (t481013 : Int).toNat).drop ((wrap64 (t481011 + 1)) : Int).toNat).length < 17592186044416 then ((some (t481015 ++ ((l0.take (t481013 : Int).toNat).drop ((wrap64 (t481011 + 1)) : Int).toNat) : List Int)).bind fun y481019 => (if 0 ≤ t481012 then (if t481012 ≤ t481011 then (if t481011 ≤ (l0.length : Int) then (if y481019.length + ((l0.take (t481011 : Int).toNat).drop (t481012 : Int).toNat).length < 17592186044416 then ((some (y481019 ++ ((l0.take (t481011 : Int).toNat).drop (t481012 : Int).toNat) : List Int)).bind fun y481023 => (if 0 ≤ t481011 then (if t481011 < (l0.length : Int) then (if y481023.length < 17592186044416 then ((some (y481023 ++ [rd l0 t481011] : List Int)).bind fun y481027 => (if (ji26) ≤ t481012 then (if t481012 ≤ (l0.length : Int) then (if y481027.length + ((l0.take (t481012 : Int).toNat).drop ((ji26) : Int).toNat).length < 17592186044416 then ((some (y481027 ++ ((l0.take (t481012 : Int).toNat).drop ((ji26) : Int).toNat) : List Int)).bind fun y481031 => (if 0 ≤ t481013 then (if y481031.length + (l0.drop (t481013 : Int).toNat).length < 17592186044416 then ((spec_l01Normal.f kj18 (y481031 ++ (l0.drop (t481013 : Int).toNat))).bind fun t481038 => (some (t481038, 0))) else (none)) else (none))) else (none)) else (none)) else (none))) else (none)) else (none)) else (none))) else (none)) else (none)) else (none)) else (none))) else (none)) else (none)) else (none)) else (none))) else (none)) else (none)) = some (r1, r2) := by first | (rw [hji26] at H; exact H) | (simp only [hji26] at H ⊢; exact H)
            (try rw [hji26] at A23)
            (try rw [hji26] at A25)
            have hji26w : (IntKind.i64.wrap (t481010 + 1)) = ji26 := (i64_w _).trans hji26
            by_cases c27 : 0 ≤ (ji26)
            · rw [if_pos c27] at H
              have c27b0 := eq_true c27
              have c27b1 : decide (0 ≤ (ji26)) = true := decide_eq_true c27
              clear c27
              by_cases c28 : (ji26) ≤ (l0.length : Int)
              · rw [if_pos c28] at H
                have c28b0 := eq_true c28
                have c28b1 : decide ((ji26) ≤ (l0.length : Int)) = true := decide_eq_true c28
                clear c28
                replace H := Option.bind_eq_some_iff.mp H
                obtain ⟨t481015, A290, H⟩ := H
                replace H : (if 0 ≤ (wrap64 (t481011 + 1)) then (if (wrap64 (t481011 + 1)) ≤ t481013 then (if t481013 ≤ (l0.length : Int) then (if t481015.length + ((l0.take (t481013 : Int).toNat).drop ((wrap64 (t481011 + 1)) : Int).toNat).length < 17592186044416 then ((some (t481015 ++ ((l0.take (t481013 : Int).toNat).drop ((wrap64 (t481011 + 1)) : Int).toNat) : List Int)).bind fun y481019 => (if 0 ≤ t481012 then (if t481012 ≤ t481011 then (if t481011 ≤ (l0.length : Int) then (if y481019.length + ((l0.take (t481011 : Int).toNat).drop (t481012 : Int).toNat).length < 17592186044416 then ((some (y481019 ++ ((l0.take (t481011 : Int).toNat).drop (t481012 : Int).toNat) : List Int)).bind fun y481023 => (if 0 ≤ t481011 then (if t481011 < (l0.length : Int) then (if y481023.length < 17592186044416 then ((some (y481023 ++ [rd l0 t481011] : List Int)).bind fun y481027 => (if (ji26) ≤ t481012 then (if t481012 ≤ (l0.length : Int) then (if y481027.length + ((l0.take (t481012 : Int).toNat).drop ((ji26) : Int).toNat).length < 17592186044416 then ((some (y481027 ++ ((l0.take (t481012 : Int).toNat).drop ((ji26) : Int).toNat) : List Int)).bind fun y481031 => (if 0 ≤ t481013 then (if y481031.length + (l0.drop (t481013 : Int).toNat).length < 17592186044416 then ((spec_l01Normal.f kj18 (y481031 ++ (l0.drop (t481013 : Int).toNat))).bind fun t481038 => (some (t481038, 0))) else (none)) else (none))) else (none)) else (none)) else (none))) else (none)) else (none)) else (none))) else (none)) else (none)) else (none)) else (none))) else (none)) else (none)) else (none)) else (none)) = some (r1, r2) := H
                have A29 := Aside0.mk A290
                clear A290
                obtain ⟨ji30, hji30⟩ : ∃ j_ : Int, (wrap64 (t481011 + 1)) = j_ := ⟨_, rfl⟩
                replace H : (if 0 ≤ (ji30) then (if (ji30) ≤ t481013 then (if t481013 ≤ (l0.length : Int) then (if t481015.length + ((l0.take (t481013 : Int).toNat).drop ((ji30) : Int).toNat).length < 17592186044416 then ((some (t481015 ++ ((l0.take (t481013 : Int).toNat).drop ((ji30) : Int).toNat) : List Int)).bind fun y481019 => (if 0 ≤ t481012 then (if t481012 ≤ t481011 then (if t481011 ≤ (l0.length : Int) then (if y481019.length + ((l0.take (t481011 : Int).toNat).drop (t481012 : Int).toNat).length < 17592186044416 then ((some (y481019 ++ ((l0.take (t481011 : Int).toNat).drop (t481012 : Int).toNat) : List Int)).bind fun y481023 => (if 0 ≤ t481011 then (if t481011 < (l0.length : Int) then (if y481023.length < 17592186044416 then ((some (y481023 ++ [rd l0 t481011] : List Int)).bind fun y481027 => (if (ji26) ≤ t481012 then (if t481012 ≤ (l0.length : Int) then (if y481027.length + ((l0.take (t481012 : Int).toNat).drop ((ji26) : Int).toNat).length < 17592186044416 then ((some (y481027 ++ ((l0.take (t481012 : Int).toNat).drop ((ji26) : Int).toNat) : List Int)).bind fun y481031 => (if 0 ≤ t481013 then (if y481031.length + (l0.drop (t481013 : Int).toNat).length < 17592186044416 then ((spec_l01Normal.f kj18 (y481031 ++ (l0.drop (t481013 : Int).toNat))).bind fun t481038 => (some (t481038, 0))) else (none)) else (none))) else (none)) else (none)) else (none))) else (none)) else (none)) else (none))) else (none)) else (none)) else (none)) else (none))) else (none)) else (none)) else (none)) else (none)) = some (r1, r2) := by first | (rw [hji30] at H; exact H) | (simp only [hji30] at H ⊢; exact H)
                (try rw [hji30] at A23)
                (try rw [hji30] at A25)
                (try rw [hji30] at A29)
                have hji30w : (IntKind.i64.wrap (t481011 + 1)) = ji30 := (i64_w _).trans hji30
                by_cases c31 : 0 ≤ (ji30)
                · rw [if_pos c31] at H
                  have c31b0 := eq_true c31
                  have c31b1 : decide (0 ≤ (ji30)) = true := decide_eq_true c31
                  clear c31
                  by_cases c32 : (ji30) ≤ t481013
                  · rw [if_pos c32] at H
                    have c32b0 := eq_true c32
                    have c32b1 : decide ((ji30) ≤ t481013) = true := decide_eq_true c32
                    clear c32
                    by_cases c33 : t481013 ≤ (l0.length : Int)
                    · rw [if_pos c33] at H
                      have c33b0 := eq_true c33
                      have c33b1 : decide (t481013 ≤ (l0.length : Int)) = true := decide_eq_true c33
                      clear c33
                      by_cases c34 : t481015.length + ((l0.take (t481013 : Int).toNat).drop ((ji30) : Int).toNat).length < 17592186044416
                      · rw [if_pos c34] at H
                        have LMc34 := Aside0.mk c34
                        clear c34
                        obtain ⟨y481019, hy481019⟩ : ∃ y_ : List Int, y_ = (t481015 ++ ((l0.take (t481013 : Int).toNat).drop ((ji30) : Int).toNat)) := ⟨_, rfl⟩
                        replace H : (if 0 ≤ t481012 then (if t481012 ≤ t481011 then (if t481011 ≤ (l0.length : Int) then (if y481019.length + ((l0.take (t481011 : Int).toNat).drop (t481012 : Int).toNat).length < 17592186044416 then ((some (y481019 ++ ((l0.take (t481011 : Int).toNat).drop (t481012 : Int).toNat) : List Int)).bind fun y481023 => (if 0 ≤ t481011 then (if t481011 < (l0.length : Int) then (if y481023.length < 17592186044416 then ((some (y481023 ++ [rd l0 t481011] : List Int)).bind fun y481027 => (if (ji26) ≤ t481012 then (if t481012 ≤ (l0.length : Int) then (if y481027.length + ((l0.take (t481012 : Int).toNat).drop ((ji26) : Int).toNat).length < 17592186044416 then ((some (y481027 ++ ((l0.take (t481012 : Int).toNat).drop ((ji26) : Int).toNat) : List Int)).bind fun y481031 => (if 0 ≤ t481013 then (if y481031.length + (l0.drop (t481013 : Int).toNat).length < 17592186044416 then ((spec_l01Normal.f kj18 (y481031 ++ (l0.drop (t481013 : Int).toNat))).bind fun t481038 => (some (t481038, 0))) else (none)) else (none))) else (none)) else (none)) else (none))) else (none)) else (none)) else (none))) else (none)) else (none)) else (none)) else (none)) = some (r1, r2) := by first | (rw [hy481019]; with_reducible exact H) | (have H2_ := (Option.bind_some _ _).symm.trans H; rw [hy481019]; with_reducible exact H2_) | (have H2_ := (Option.bind_some _ _).symm.trans H; with_reducible exact H2_) | with_reducible exact H | (rw [hy481019]; exact H) | exact H
                        have Ny481019 := Aside0.mk hy481019
                        clear hy481019
                        by_cases c35 : 0 ≤ t481012
                        · rw [if_pos c35] at H
                          have c35b0 := eq_true c35
                          have c35b1 : decide (0 ≤ t481012) = true := decide_eq_true c35
                          clear c35
                          by_cases c36 : t481012 ≤ t481011
                          · rw [if_pos c36] at H
                            have c36b0 := eq_true c36
                            have c36b1 : decide (t481012 ≤ t481011) = true := decide_eq_true c36
                            clear c36
                            by_cases c37 : t481011 ≤ (l0.length : Int)
                            · rw [if_pos c37] at H
                              have c37b0 := eq_true c37
                              have c37b1 : decide (t481011 ≤ (l0.length : Int)) = true := decide_eq_true c37
                              clear c37
                              by_cases c38 : y481019.length + ((l0.take (t481011 : Int).toNat).drop (t481012 : Int).toNat).length < 17592186044416
                              · rw [if_pos c38] at H
                                have LMc38 := Aside0.mk c38
                                clear c38
                                obtain ⟨y481023, hy481023⟩ : ∃ y_ : List Int, y_ = (y481019 ++ ((l0.take (t481011 : Int).toNat).drop (t481012 : Int).toNat)) := ⟨_, rfl⟩
                                replace H : (if 0 ≤ t481011 then (if t481011 < (l0.length : Int) then (if y481023.length < 17592186044416 then ((some (y481023 ++ [rd l0 t481011] : List Int)).bind fun y481027 => (if (ji26) ≤ t481012 then (if t481012 ≤ (l0.length : Int) then (if y481027.length + ((l0.take (t481012 : Int).toNat).drop ((ji26) : Int).toNat).length < 17592186044416 then ((some (y481027 ++ ((l0.take (t481012 : Int).toNat).drop ((ji26) : Int).toNat) : List Int)).bind fun y481031 => (if 0 ≤ t481013 then (if y481031.length + (l0.drop (t481013 : Int).toNat).length < 17592186044416 then ((spec_l01Normal.f kj18 (y481031 ++ (l0.drop (t481013 : Int).toNat))).bind fun t481038 => (some (t481038, 0))) else (none)) else (none))) else (none)) else (none)) else (none))) else (none)) else (none)) else (none)) = some (r1, r2) := by first | (rw [hy481023]; with_reducible exact H) | (have H2_ := (Option.bind_some _ _).symm.trans H; rw [hy481023]; with_reducible exact H2_) | (have H2_ := (Option.bind_some _ _).symm.trans H; with_reducible exact H2_) | with_reducible exact H | (rw [hy481023]; exact H) | exact H
                                have Ny481023 := Aside0.mk hy481023
                                clear hy481023
                                by_cases c39 : 0 ≤ t481011
                                · rw [if_pos c39] at H
                                  have c39b0 : decide (0 ≤ t481011) = true := decide_eq_true c39
                                  clear c39
                                  by_cases c40 : t481011 < (l0.length : Int)
                                  · rw [if_pos c40] at H
                                    have c40b0 : decide (t481011 < (l0.length : Int)) = true := decide_eq_true c40
                                    clear c40
                                    by_cases c41 : y481023.length < 17592186044416
                                    · rw [if_pos c41] at H
                                      have LMc41 := Aside0.mk c41
                                      clear c41
                                      obtain ⟨y481027, hy481027⟩ : ∃ y_ : List Int, y_ = (y481023 ++ [rd l0 t481011]) := ⟨_, rfl⟩
                                      replace H : (if (ji26) ≤ t481012 then (if t481012 ≤ (l0.length : Int) then (if y481027.length + ((l0.take (t481012 : Int).toNat).drop ((ji26) : Int).toNat).length < 17592186044416 then ((some (y481027 ++ ((l0.take (t481012 : Int).toNat).drop ((ji26) : Int).toNat) : List Int)).bind fun y481031 => (if 0 ≤ t481013 then (if y481031.length + (l0.drop (t481013 : Int).toNat).length < 17592186044416 then ((spec_l01Normal.f kj18 (y481031 ++ (l0.drop (t481013 : Int).toNat))).bind fun t481038 => (some (t481038, 0))) else (none)) else (none))) else (none)) else (none)) else (none)) = some (r1, r2) := by first | (rw [hy481027]; with_reducible exact H) | (have H2_ := (Option.bind_some _ _).symm.trans H; rw [hy481027]; with_reducible exact H2_) | (have H2_ := (Option.bind_some _ _).symm.trans H; with_reducible exact H2_) | with_reducible exact H | (rw [hy481027]; exact H) | exact H
                                      have Ny481027 := Aside0.mk hy481027
                                      clear hy481027
                                      have c42b0 := eq_true (of_decide_eq_true (by first | (with_reducible assumption) | assumption) : 0 ≤ (ji26))
                                      by_cases c43 : (ji26) ≤ t481012
                                      · rw [if_pos c43] at H
                                        have c43b0 := eq_true c43
                                        have c43b1 : decide ((ji26) ≤ t481012) = true := decide_eq_true c43
                                        clear c43
                                        by_cases c44 : t481012 ≤ (l0.length : Int)
                                        · rw [if_pos c44] at H
                                          have c44b0 := eq_true c44
                                          have c44b1 : decide (t481012 ≤ (l0.length : Int)) = true := decide_eq_true c44
                                          clear c44
                                          by_cases c45 : y481027.length + ((l0.take (t481012 : Int).toNat).drop ((ji26) : Int).toNat).length < 17592186044416
                                          · rw [if_pos c45] at H
                                            have LMc45 := Aside0.mk c45
                                            clear c45
                                            obtain ⟨y481031, hy481031⟩ : ∃ y_ : List Int, y_ = (y481027 ++ ((l0.take (t481012 : Int).toNat).drop ((ji26) : Int).toNat)) := ⟨_, rfl⟩
                                            replace H : (if 0 ≤ t481013 then (if y481031.length + (l0.drop (t481013 : Int).toNat).length < 17592186044416 then ((spec_l01Normal.f kj18 (y481031 ++ (l0.drop (t481013 : Int).toNat))).bind fun t481038 => (some (t481038, 0))) else (none)) else (none)) = some (r1, r2) := by first | (rw [hy481031]; with_reducible exact H) | (have H2_ := (Option.bind_some _ _).symm.trans H; rw [hy481031]; with_reducible exact H2_) | (have H2_ := (Option.bind_some _ _).symm.trans H; with_reducible exact H2_) | with_reducible exact H | (rw [hy481031]; exact H) | exact H
                                            have Ny481031 := Aside0.mk hy481031
                                            clear hy481031
                                            by_cases c46 : 0 ≤ t481013
                                            · rw [if_pos c46] at H
                                              have c46b0 := eq_true c46
                                              have c46b1 : decide (0 ≤ t481013) = true := decide_eq_true c46
                                              clear c46
                                              have c47b0 := eq_true (of_decide_eq_true (by first | (with_reducible assumption) | assumption) : t481013 ≤ (l0.length : Int))
                                              by_cases c48 : y481031.length + (l0.drop (t481013 : Int).toNat).length < 17592186044416
                                              · rw [if_pos c48] at H
                                                have LMc48 := Aside0.mk c48
                                                clear c48
                                                obtain ⟨y481035, hy481035⟩ : ∃ y_ : List Int, y_ = (y481031 ++ (l0.drop (t481013 : Int).toNat)) := ⟨_, rfl⟩
                                                replace H : ((spec_l01Normal.f kj18 y481035).bind fun t481038 => (some (t481038, 0))) = some (r1, r2) := by first | (rw [hy481035]; with_reducible exact H) | (have H2_ := (Option.bind_some _ _).symm.trans H; rw [hy481035]; with_reducible exact H2_) | (have H2_ := (Option.bind_some _ _).symm.trans H; with_reducible exact H2_) | with_reducible exact H | (rw [hy481035]; exact H) | exact H
                                                have Ny481035 := Aside0.mk hy481035
                                                clear hy481035
                                                replace H := Option.bind_eq_some_iff.mp H
                                                obtain ⟨t481038, A490, H⟩ := H
                                                replace H : (some (t481038, 0)) = some (r1, r2) := H
                                                have A49 := Aside0.mk A490
                                                clear A490
                                                simp only [Option.some.injEq, Prod.mk.injEq] at H
                                                obtain ⟨rfl, rfl⟩ := H
                                                try go_wp2_with (first | ((with_reducible refine gate_callee (f := 99) rfl ?_); refine goesL_ (some 45) rfl rfl Try.func99 (by kernel_rfl) rfl #[.slice A0 l0.length c0, .int .i64 ji22] rfl (by (try simp only [List.map_toArray, List.map_cons, List.map_nil]); first | done | (simp only [hji22]; rfl) | rfl | (simp only [List.length_drop, List.length_take]; rfl)) ?_; (with_reducible refine (spec_l01Places.calls kj18 _ _ l0 ji22 t481010 t481011 _ ?side1 ?side2 A23.out).mono ?_); (case side1 => repeat (first | exact (Kd.C_below HR0.out HB.out) | (with_reducible refine Kd.C_alloc ?_ _) | (with_reducible refine Kd.C_drewN ?_ _) | (with_reducible refine Kd.C_drew ?_))); (case side2 => exact HC0.out); rintro e w' ⟨rfl, ⟨nd, rfl⟩⟩; refine ⟨_, rfl, ?_⟩) | ((with_reducible refine gate_callee (f := 99) rfl ?_); refine goesL_ (some 53) rfl rfl Try.func99 (by kernel_rfl) rfl #[.slice A0 l0.length c0, .int .i64 ji24] rfl (by (try simp only [List.map_toArray, List.map_cons, List.map_nil]); first | done | (simp only [hji24]; rfl) | rfl | (simp only [List.length_drop, List.length_take]; rfl)) ?_; (with_reducible refine (spec_l01Places.calls kj18 _ _ l0 ji24 t481012 t481013 _ ?side1 ?side2 A25.out).mono ?_); (case side1 => repeat (first | exact (Kd.C_below HR0.out (by repeat (first | (with_reducible first | exact HB.out | apply below_alloc | apply pw_below_drewN | apply below_drew1) | exact HB.out))) | (with_reducible refine Kd.C_alloc ?_ _) | (with_reducible refine Kd.C_drewN ?_ _) | (with_reducible refine Kd.C_drew ?_))); (case side2 => exact HC0.out); rintro e w' ⟨rfl, ⟨nd, rfl⟩⟩; refine ⟨_, rfl, ?_⟩))
                                                (try (rw [drewN_self wc]; generalize hq_ : World.drewN wc _ = wc; have n0_ : Aside0 (Below w.heap.size w wc) := ⟨by rw [← hq_]; exact (by repeat (first | (with_reducible first | exact HB.out | apply below_alloc | apply pw_below_drewN | apply below_drew1) | exact HB.out))⟩; clear HB hq_; have HB := n0_; clear n0_))
                                                have n0_ := Aside0.mk (below_drew1 HB.out)
                                                clear HB
                                                have HB := n0_
                                                clear n0_
                                                obtain ⟨i051, hi051, _, hsz51, _⟩ := info_parts info2
                                                obtain ⟨hcut51, hA51, hC51⟩ := print_take_of (P := Try.prog) (Value.int .i64) 0 22 2 .i64 Try.underlying22 hi051 hsz51 A0 c0 l0 (ji26) (of_decide_eq_true (by first | (with_reducible assumption) | assumption)) (of_decide_eq_true (by first | (with_reducible assumption) | assumption)) HC0.out
                                                have HR481014 := Aside0.mk (Kd.C_of_reads (h1 := fun _ => rfl) (hA51 _ (Kd.reads_of_C HR0.out)))
                                                have HC481014 := Aside0.mk hC51
                                                clear hA51 hC51 hi051 hsz51
                                                obtain ⟨i052, hi052, _, hsz52, _⟩ := info_parts info2
                                                obtain ⟨A52, hcut52, hA52, hC52⟩ := print_mid_of (P := Try.prog) (Value.int .i64) 0 22 2 .i64 .i64 Try.underlying22 hi052 hsz52 A0 c0 l0 (ji30) t481013 (of_decide_eq_true (by first | (with_reducible assumption) | assumption)) (by first | omega | exact of_decide_eq_true (by first | (with_reducible assumption) | assumption)) (of_decide_eq_true (by first | (with_reducible assumption) | assumption)) HC0.out
                                                have HR481018 := Aside0.mk (Kd.C_of_reads (h1 := fun _ => rfl) (hA52 _ (Kd.reads_of_C HR0.out)))
                                                have HC481018 := Aside0.mk hC52
                                                clear hA52 hC52 hi052 hsz52
                                                refine start_ (n := 12) (S := fun w' => True) (ds := []) #[false, false, false, false, false, false, false, false, false, false, false, false] (by kernel_rfl) rfl rfl trivial (fun hHeld => ?_); refine with_tabW spec_PivotWord.tab8 spec_PivotWord.bits8 (fun HT_ HW_ => ?_)
                                                generalize wc.drew = w50 at HB HR481014 HR481018 hHeld ⊢
                                                refine pure_ (i := 0) (N := some 56) (v := ?_) (a' := ?_) #[true, false, false, false, false, false, false, false, false, false, false, false] rfl rfl (any_of HT_.out (by kernel_rfl)) (fun _ _ _ h => h) (Or.inl ⟨by rfl, ?_⟩) ?_ ?_
                                                rotate_left
                                                · intro w'
                                                  go_simp
                                                  with_reducible rfl
                                                rotate_left
                                                · simp only [Act.put, List.setIfInBounds_toArray, List.set_cons_zero, List.set_cons_succ, i64_w, i32_w]
                                                  rfl
                                                refine pure_ (i := 1) (N := some 57) (v := ?_) (a' := ?_) #[true, true, false, false, false, false, false, false, false, false, false, false] rfl rfl (any_of HT_.out (by kernel_rfl)) (fun _ _ _ h => h) (Or.inl ⟨by rfl, ?_⟩) ?_ ?_
                                                rotate_left
                                                · intro w'
                                                  go_simp
                                                  with_reducible rfl
                                                rotate_left
                                                · simp only [Act.put, List.setIfInBounds_toArray, List.set_cons_zero, List.set_cons_succ, i64_w, i32_w]
                                                  rfl
                                                refine pure_ (i := 2) (N := some 58) (v := ?_) (a' := ?_) #[true, true, true, false, false, false, false, false, false, false, false, false] rfl rfl (any_of HT_.out (by kernel_rfl)) (fun _ _ _ h => h) (Or.inl ⟨by rfl, ?_⟩) ?_ ?_
                                                rotate_left
                                                · intro w'
                                                  go_simp
                                                  with_reducible rfl
                                                rotate_left
                                                · simp only [Act.put, List.setIfInBounds_toArray, List.set_cons_zero, List.set_cons_succ, i64_w, i32_w]
                                                  rfl
                                                refine pure_ (i := 3) (N := some 59) (v := ?_) (a' := ?_) #[true, true, true, true, false, false, false, false, false, false, false, false] rfl rfl (any_of HT_.out (by kernel_rfl)) (fun _ _ _ h => h) (Or.inl ⟨by rfl, ?_⟩) ?_ ?_
                                                rotate_left
                                                · intro w'
                                                  go_simp
                                                  with_reducible rfl
                                                rotate_left
                                                · simp only [Act.put, List.setIfInBounds_toArray, List.set_cons_zero, List.set_cons_succ, i64_w, i32_w]
                                                  rfl
                                                refine pure_ (i := 5) (N := some 61) (v := ?_) (a' := ?_) #[true, true, true, true, false, true, false, false, false, false, false, false] rfl rfl (any_of HT_.out (by kernel_rfl)) (fun _ _ _ h => h) (Or.inl ⟨by rfl, ?_⟩) ?_ ?_
                                                rotate_left
                                                · intro w'
                                                  go_simp
                                                  with_reducible rfl
                                                rotate_left
                                                · simp only [Act.put, List.setIfInBounds_toArray, List.set_cons_zero, List.set_cons_succ, i64_w, i32_w]
                                                  rfl
                                                refine pure_ (i := 6) (N := some 62) (v := ?_) (a' := ?_) #[true, true, true, true, false, true, true, false, false, false, false, false] rfl rfl (any_of HT_.out (by kernel_rfl)) (fun _ _ _ h => h) (Or.inl ⟨by rfl, ?_⟩) ?_ ?_
                                                rotate_left
                                                · intro w'
                                                  go_simp
                                                  with_reducible rfl
                                                rotate_left
                                                · simp only [Act.put, List.setIfInBounds_toArray, List.set_cons_zero, List.set_cons_succ, i64_w, i32_w]
                                                  rfl
                                                refine pure_ (i := 7) (N := some 63) (v := ?_) (a' := ?_) #[true, true, true, true, false, true, true, true, false, false, false, false] rfl rfl (any_of HT_.out (by kernel_rfl)) (fun _ _ _ h => h) (Or.inl ⟨by rfl, ?_⟩) ?_ ?_
                                                rotate_left
                                                · intro w'
                                                  go_simp
                                                  with_reducible rfl
                                                rotate_left
                                                · simp only [Act.put, List.setIfInBounds_toArray, List.set_cons_zero, List.set_cons_succ, i64_w, i32_w]
                                                  rfl
                                                refine pure_ (i := 8) (N := some 64) (v := ?_) (a' := ?_) #[true, true, true, true, false, true, true, true, true, false, false, false] rfl rfl (any_of HT_.out (by kernel_rfl)) (fun _ _ _ h => h) (Or.inl ⟨by rfl, ?_⟩) ?_ ?_
                                                rotate_left
                                                · intro w'
                                                  go_simp
                                                  with_reducible rfl
                                                rotate_left
                                                · simp only [Act.put, List.setIfInBounds_toArray, List.set_cons_zero, List.set_cons_succ, i64_w, i32_w]
                                                  rfl
                                                refine pure_ (i := 9) (N := some 65) (v := ?_) (a' := ?_) #[true, true, true, true, false, true, true, true, true, true, false, false] rfl rfl (any_of HT_.out (by kernel_rfl)) (fun _ _ _ h => h) (Or.inl ⟨by rfl, ?_⟩) ?_ ?_
                                                rotate_left
                                                · intro w'
                                                  go_simp
                                                  with_reducible rfl
                                                rotate_left
                                                · simp only [Act.put, List.setIfInBounds_toArray, List.set_cons_zero, List.set_cons_succ, i64_w, i32_w]
                                                  rfl
                                                refine one_ (i := 4) (N := some 60) #[true, true, true, true, true, true, true, true, true, true, false, false] rfl rfl (one_of HT_.out (by kernel_rfl)) (by decide) (fun K hK => ?_)
                                                refine goes_ Try.func100 (by kernel_rfl) rfl #[.slice A0 (l0.take ((ji26) : Int).toNat).length c0] (by rfl) rfl rfl (by (try simp only [List.map_toArray, List.map_cons, List.map_nil]); first | done | (rw [show (l0.take ((ji26) : Int).toNat).length = (ji26).toNat from (by rw [List.length_take]; have h_ : ((ji26) : Int) ≤ (l0.length : Int) := of_decide_eq_true (by first | (with_reducible assumption) | assumption); omega)] <;> rfl) | (simp only [hji26]; rfl) | rfl | (simp only [List.length_drop, List.length_take]; rfl)) ?_
                                                with_reducible refine (spec_l01Own.calls _ _ (l0.take ((ji26) : Int).toNat) t481015 _ ?side1 ?side2 A29.out).mono ?_
                                                (case side1 => repeat (first | exact (Kd.C_below HR481014.out HB.out) | (with_reducible refine Kd.C_alloc ?_ _) | (with_reducible refine Kd.C_drewN ?_ _) | (with_reducible refine Kd.C_drew ?_)))
                                                (case side2 => exact HC481014.out)
                                                rintro e w53 ⟨v481016, rfl, ho0, hb⟩
                                                refine ⟨_, rfl, ?_⟩
                                                have n0_ := Aside0.mk (Kd.R_lower ho0 (below_size (by repeat (first | (with_reducible first | exact HB.out | apply below_alloc | apply pw_below_drewN | apply below_drew1) | exact HB.out))))
                                                have n1_ := Aside0.mk (below_step (by repeat (first | (with_reducible first | exact HB.out | apply below_alloc | apply pw_below_drewN | apply below_drew1) | exact HB.out)) hb)
                                                clear HB
                                                have HO481017 := n0_
                                                have HB := n1_
                                                clear n0_ n1_
                                                (try clear hb)
                                                (try clear hb2)
                                                (try clear hk)
                                                (try clear hi)
                                                (try clear ho0)
                                                refine hK.out _ _ trivial (fun hHeld => ?_)
                                                clear hK K
                                                refine norm_ (a' := ?_) ?_ ?_
                                                rotate_left
                                                · show Act.put _ (some 60) _ = _
                                                  simp only [Act.put, List.setIfInBounds_toArray, List.set_cons_zero, List.set_cons_succ, i64_w, i32_w]
                                                  rfl
                                                refine one_ (i := 10) (N := some 66) #[true, true, true, true, true, true, true, true, true, true, true, false] rfl rfl (one_of HT_.out (by kernel_rfl)) (by decide) (fun K hK => ?_)
                                                refine Kd.R_append_rows_step (Kd.int .i64) (w0 := w) w.heap.size (by rfl) (.tmp 60) (.tmp 65) 22 2 (.int .i64 0) 8 rfl Try.underlying22 info2 rfl (by decide) (by omega) v481016 t481015 ((l0.take (t481013 : Int).toNat).drop ((ji30) : Int).toNat) _ _ _ (fun _ => True) (fun _ => False) rfl rfl ?aO ?aR (fun _ _ h => h) (fun _ h => h.elim) ?aF ?aB ?aS ?aL ?_
                                                (case aR => first | (rw [← show ((l0.take (t481013 : Int).toNat).drop ((ji30) : Int).toNat).length = (t481013.toNat - (ji30).toNat) from (by rw [List.length_drop, List.length_take]; have h_ : (t481013 : Int) ≤ (l0.length : Int) := of_decide_eq_true (by first | (with_reducible assumption) | assumption); omega)]; repeat (first | exact (Kd.C_below HR481018.out HB.out) | (with_reducible refine Kd.C_alloc ?_ _) | (with_reducible refine Kd.C_drewN ?_ _) | (with_reducible refine Kd.C_drew ?_))) | (repeat (first | exact (Kd.C_below HR481018.out HB.out) | (with_reducible refine Kd.C_alloc ?_ _) | (with_reducible refine Kd.C_drewN ?_ _) | (with_reducible refine Kd.C_drew ?_))))
                                                (case aB => exact (by repeat (first | (with_reducible first | exact HB.out | apply below_alloc | apply pw_below_drewN | apply below_drew1) | exact HB.out)))
                                                (case aF => exact (fun _ _ => trivial))
                                                (case aO => exact (by (with_reducible repeat (first | apply Kd.R_alloc | apply Kd.R_drewN | apply Kd.R_drew)); exact HO481017.out))
                                                (case aS => exact (below_size (by repeat (first | (with_reducible first | exact HB.out | apply below_alloc | apply pw_below_drewN | apply below_drew1) | exact HB.out))))
                                                (case aL => have := LMc34.out; have hlx_ := (show ((l0.take (t481013 : Int).toNat).drop ((ji30) : Int).toNat).length = (t481013.toNat - (ji30).toNat) from (by rw [List.length_drop, List.length_take]; have h_ : (t481013 : Int) ≤ (l0.length : Int) := of_decide_eq_true (by first | (with_reducible assumption) | assumption); omega)); omega)
                                                intro v481020 w54 ho hb hg hat
                                                rw [← Ny481019.out] at ho
                                                have n0_ := Aside0.mk (hb)
                                                have n1_ := Aside0.mk (ho)
                                                clear HB
                                                clear HO481017
                                                have HB := n0_
                                                have HO481021 := n1_
                                                clear n0_ n1_
                                                clear ho hb hg hat
                                                refine hK.out _ _ trivial (fun hHeld => ?_)
                                                clear hK K
                                                refine norm_ (a' := ?_) ?_ ?_
                                                rotate_left
                                                · show Act.put _ (some 66) _ = _
                                                  simp only [Act.put, List.setIfInBounds_toArray, List.set_cons_zero, List.set_cons_succ, i64_w, i32_w]
                                                  rfl
                                                refine pure_ (i := 11) (N := some 13) (v := ?_) (a' := ?_) #[true, true, true, true, true, true, true, true, true, true, true, true] rfl rfl (any_of HT_.out (by kernel_rfl)) (fun _ _ _ h => h) (Or.inl ⟨by rfl, ?_⟩) ?_ ?_
                                                rotate_left
                                                · intro w'
                                                  go_simp
                                                  with_reducible rfl
                                                rotate_left
                                                · simp only [Act.put, List.setIfInBounds_toArray, List.set_cons_zero, List.set_cons_succ, i64_w, i32_w]
                                                  rfl
                                                refine done_ (done_of HT_.out (by kernel_rfl)) ?_
                                                obtain ⟨i055, hi055, _, hsz55, _⟩ := info_parts info2
                                                obtain ⟨A55, hcut55, hA55, hC55⟩ := print_mid_of (P := Try.prog) (Value.int .i64) 0 22 2 .i64 .i64 Try.underlying22 hi055 hsz55 A0 c0 l0 t481012 t481011 (of_decide_eq_true (by first | (with_reducible assumption) | assumption)) (by first | omega | exact of_decide_eq_true (by first | (with_reducible assumption) | assumption)) (of_decide_eq_true (by first | (with_reducible assumption) | assumption)) HC0.out
                                                have HR481022 := Aside0.mk (Kd.C_of_reads (h1 := fun _ => rfl) (hA55 _ (Kd.reads_of_C HR0.out)))
                                                have HC481022 := Aside0.mk hC55
                                                clear hA55 hC55 hi055 hsz55
                                                try go_wp2_with (first | ((with_reducible refine gate_builtin (b := .append) (xs := #[.tmp 67, .tmp 71]) rfl ?_); at_builtin; refine Kd.R_append_rows (Kd.int .i64) (w0 := w) w.heap.size rfl (.tmp 67) (.tmp 71) 22 2 (.int .i64 0) 8 rfl Try.underlying22 info2 rfl (by decide) (by omega) v481020 y481019 ((l0.take (t481011 : Int).toNat).drop (t481012 : Int).toNat) _ _ _ (fun _ => True) (fun _ => False) rfl rfl ?aO ?aR (fun _ _ h => h) (fun _ h => h.elim) ?aF ?aB ?aS ?aL ?_; (case aR => first | (rw [← show ((l0.take (t481011 : Int).toNat).drop (t481012 : Int).toNat).length = (t481011.toNat - t481012.toNat) from (by rw [List.length_drop, List.length_take]; have h_ : (t481011 : Int) ≤ (l0.length : Int) := of_decide_eq_true (by first | (with_reducible assumption) | assumption); omega)]; repeat (first | exact (Kd.C_below HR481022.out HB.out) | (with_reducible refine Kd.C_alloc ?_ _) | (with_reducible refine Kd.C_drewN ?_ _) | (with_reducible refine Kd.C_drew ?_))) | (repeat (first | exact (Kd.C_below HR481022.out HB.out) | (with_reducible refine Kd.C_alloc ?_ _) | (with_reducible refine Kd.C_drewN ?_ _) | (with_reducible refine Kd.C_drew ?_)))); (case aB => exact (by repeat (first | (with_reducible first | exact HB.out | apply below_alloc | apply pw_below_drewN | apply below_drew1) | exact HB.out))); (case aF => exact (fun _ _ => trivial)); (case aO => exact (by (with_reducible repeat (first | apply Kd.R_alloc | apply Kd.R_drewN | apply Kd.R_drew)); exact HO481021.out)); (case aS => exact (below_size (by repeat (first | (with_reducible first | exact HB.out | apply below_alloc | apply pw_below_drewN | apply below_drew1) | exact HB.out)))); (case aL => have := LMc38.out; have hlx_ := (show ((l0.take (t481011 : Int).toNat).drop (t481012 : Int).toNat).length = (t481011.toNat - t481012.toNat) from (by rw [List.length_drop, List.length_take]; have h_ : (t481011 : Int) ≤ (l0.length : Int) := of_decide_eq_true (by first | (with_reducible assumption) | assumption); omega)); omega); intro v481024 w56 ho hb hg hat; rw [← Ny481023.out] at ho; have n0_ := Aside0.mk (hb); have n1_ := Aside0.mk (ho); clear HB; clear HO481021; have HB := n0_; have HO481025 := n1_; clear n0_ n1_; clear ho hb hg hat; have p481026 : 0 ≤ (t481011 : Int) := of_decide_eq_true (by first | (with_reducible assumption) | assumption); have q481026 : t481011 < (l0.length : Int) := of_decide_eq_true (by first | (with_reducible assumption) | assumption); obtain ⟨ad481026, e481026, hx481026_0⟩ := Kd.at_int HR0.out t481011 p481026 q481026; cases e481026; replace hx481026_0 := (HB.out.cell (World.block_lt_of_cell? w _ hx481026_0)).trans hx481026_0; replace p481026 := eq_true p481026; replace q481026 := eq_true q481026) | ((with_reducible refine gate_builtin (b := .append) (xs := #[.tmp 73, .tmp 78]) rfl ?_); at_builtin; refine Kd.R_append (Kd.int .i64) (w0 := w) w.heap.size rfl (.tmp 73) (.tmp 78) 22 2 (.int .i64 0) 8 rfl Try.underlying22 info2 rfl (by decide) (by omega) v481024 y481023 (rd l0 t481011) [.int .i64 (rd l0 t481011)] (fun _ => True) (fun _ => False) rfl rfl ?aP (fun _ hk => hk.elim) ?aF ?aO ?aB ?aS ?aL ?_; (case aP => exact rfl); (case aB => exact (by repeat (first | (with_reducible first | exact HB.out | apply below_alloc | apply pw_below_drewN | apply below_drew1) | exact HB.out))); (case aF => exact (fun _ _ => trivial)); (case aO => exact (by (with_reducible repeat (first | apply Kd.R_alloc | apply Kd.R_drewN | apply Kd.R_drew)); exact HO481025.out)); (case aS => exact (below_size (by repeat (first | (with_reducible first | exact HB.out | apply below_alloc | apply pw_below_drewN | apply below_drew1) | exact HB.out)))); (case aL => have := LMc41.out; omega); intro v481028 w57 ho hb hg hat; rw [← Ny481027.out] at ho; have n0_ := Aside0.mk (hb); have n1_ := Aside0.mk (ho); clear HB; clear HO481025; have HB := n0_; have HO481029 := n1_; clear n0_ n1_; clear ho hb hg hat; obtain ⟨i058, hi058, _, hsz58, _⟩ := info_parts info2; obtain ⟨A58, hcut58, hA58, hC58⟩ := print_mid_of (P := Try.prog) (Value.int .i64) 0 22 2 .i64 .i64 Try.underlying22 hi058 hsz58 (some ad481026) c0 l0 (ji26) t481012 (of_decide_eq_true (by first | (with_reducible assumption) | assumption)) (by first | omega | exact of_decide_eq_true (by first | (with_reducible assumption) | assumption)) (of_decide_eq_true (by first | (with_reducible assumption) | assumption)) HC0.out; have HR481030 := Aside0.mk (Kd.C_of_reads (h1 := fun _ => rfl) (hA58 _ (Kd.reads_of_C HR0.out))); have HC481030 := Aside0.mk hC58; clear hA58 hC58 hi058 hsz58) | ((with_reducible refine gate_builtin (b := .append) (xs := #[.tmp 80, .tmp 85]) rfl ?_); at_builtin; refine Kd.R_append_rows (Kd.int .i64) (w0 := w) w.heap.size rfl (.tmp 80) (.tmp 85) 22 2 (.int .i64 0) 8 rfl Try.underlying22 info2 rfl (by decide) (by omega) v481028 y481027 ((l0.take (t481012 : Int).toNat).drop ((ji26) : Int).toNat) _ _ _ (fun _ => True) (fun _ => False) rfl rfl ?aO ?aR (fun _ _ h => h) (fun _ h => h.elim) ?aF ?aB ?aS ?aL ?_; (case aR => first | (rw [← show ((l0.take (t481012 : Int).toNat).drop ((ji26) : Int).toNat).length = (t481012.toNat - (ji26).toNat) from (by rw [List.length_drop, List.length_take]; have h_ : (t481012 : Int) ≤ (l0.length : Int) := of_decide_eq_true (by first | (with_reducible assumption) | assumption); omega)]; repeat (first | exact (Kd.C_below HR481030.out HB.out) | (with_reducible refine Kd.C_alloc ?_ _) | (with_reducible refine Kd.C_drewN ?_ _) | (with_reducible refine Kd.C_drew ?_))) | (repeat (first | exact (Kd.C_below HR481030.out HB.out) | (with_reducible refine Kd.C_alloc ?_ _) | (with_reducible refine Kd.C_drewN ?_ _) | (with_reducible refine Kd.C_drew ?_)))); (case aB => exact (by repeat (first | (with_reducible first | exact HB.out | apply below_alloc | apply pw_below_drewN | apply below_drew1) | exact HB.out))); (case aF => exact (fun _ _ => trivial)); (case aO => exact (by (with_reducible repeat (first | apply Kd.R_alloc | apply Kd.R_drewN | apply Kd.R_drew)); exact HO481029.out)); (case aS => exact (below_size (by repeat (first | (with_reducible first | exact HB.out | apply below_alloc | apply pw_below_drewN | apply below_drew1) | exact HB.out)))); (case aL => have := LMc45.out; have hlx_ := (show ((l0.take (t481012 : Int).toNat).drop ((ji26) : Int).toNat).length = (t481012.toNat - (ji26).toNat) from (by rw [List.length_drop, List.length_take]; have h_ : (t481012 : Int) ≤ (l0.length : Int) := of_decide_eq_true (by first | (with_reducible assumption) | assumption); omega)); omega); intro v481032 w59 ho hb hg hat; rw [← Ny481031.out] at ho; have n0_ := Aside0.mk (hb); have n1_ := Aside0.mk (ho); clear HB; clear HO481029; have HB := n0_; have HO481033 := n1_; clear n0_ n1_; clear ho hb hg hat; obtain ⟨i060, hi060, _, hsz60, _⟩ := info_parts info2; obtain ⟨A60, hcut60, hA60, hC60⟩ := print_drop_of (P := Try.prog) (Value.int .i64) 0 22 2 .i64 Try.underlying22 hi060 hsz60 (some ad481026) c0 l0 t481013 (of_decide_eq_true (by first | (with_reducible assumption) | assumption)) (of_decide_eq_true (by first | (with_reducible assumption) | assumption)) HC0.out; have HR481034 := Aside0.mk (Kd.C_of_reads (h1 := fun _ => rfl) (hA60 _ (Kd.reads_of_C HR0.out))); have HC481034 := Aside0.mk hC60; clear hA60 hC60 hi060 hsz60) | ((with_reducible refine gate_builtin (b := .append) (xs := #[.tmp 87, .tmp 90]) rfl ?_); at_builtin; refine Kd.R_append_rows (Kd.int .i64) (w0 := w) w.heap.size rfl (.tmp 87) (.tmp 90) 22 2 (.int .i64 0) 8 rfl Try.underlying22 info2 rfl (by decide) (by omega) v481032 y481031 (l0.drop (t481013 : Int).toNat) _ _ _ (fun _ => True) (fun _ => False) rfl rfl ?aO ?aR (fun _ _ h => h) (fun _ h => h.elim) ?aF ?aB ?aS ?aL ?_; (case aR => first | (rw [← show (l0.drop (t481013 : Int).toNat).length = (l0.length - t481013.toNat) from List.length_drop]; repeat (first | exact (Kd.C_below HR481034.out HB.out) | (with_reducible refine Kd.C_alloc ?_ _) | (with_reducible refine Kd.C_drewN ?_ _) | (with_reducible refine Kd.C_drew ?_))) | (repeat (first | exact (Kd.C_below HR481034.out HB.out) | (with_reducible refine Kd.C_alloc ?_ _) | (with_reducible refine Kd.C_drewN ?_ _) | (with_reducible refine Kd.C_drew ?_)))); (case aB => exact (by repeat (first | (with_reducible first | exact HB.out | apply below_alloc | apply pw_below_drewN | apply below_drew1) | exact HB.out))); (case aF => exact (fun _ _ => trivial)); (case aO => exact (by (with_reducible repeat (first | apply Kd.R_alloc | apply Kd.R_drewN | apply Kd.R_drew)); exact HO481033.out)); (case aS => exact (below_size (by repeat (first | (with_reducible first | exact HB.out | apply below_alloc | apply pw_below_drewN | apply below_drew1) | exact HB.out)))); (case aL => have := LMc48.out; have hlx_ := (show (l0.drop (t481013 : Int).toNat).length = (l0.length - t481013.toNat) from List.length_drop); omega); intro v481036 w61 ho hb hg hat; rw [← Ny481035.out] at ho; have n0_ := Aside0.mk (hb); have n1_ := Aside0.mk (ho); clear HB; clear HO481033; have HB := n0_; have HO481037 := n1_; clear n0_ n1_; clear ho hb hg hat; obtain ⟨Ao62, co62, eo62⟩ := Kd.R_slice HO481037.out; subst eo62) | ((with_reducible refine gate_callee (f := 102) rfl ?_); refine goesL_ (some 92) rfl rfl Try.func102 (by kernel_rfl) rfl #[.slice Ao62 y481035.length co62] rfl (by (try simp only [List.map_toArray, List.map_cons, List.map_nil]); first | done | rfl | (simp only [List.length_drop, List.length_take]; rfl)) ?_; (with_reducible refine (spec_l01Normal.calls kj18 _ _ y481035 t481038 _ ?side1 ?side2 A49.out).mono ?_); (case side1 => repeat (first | exact (Kd.R_reads' HO481037.out).2.2 | (with_reducible refine Kd.C_alloc ?_ _) | (with_reducible refine Kd.C_drewN ?_ _) | (with_reducible refine Kd.C_drew ?_))); (case side2 => exact (Kd.R_reads' HO481037.out).2.1); rintro e w63 ⟨v481039, rfl, ho0, hb⟩; refine ⟨_, rfl, ?_⟩; have n0_ := Aside0.mk (Kd.R_elder' (by (with_reducible repeat (first | apply Kd.R_alloc | apply Kd.R_drewN | apply Kd.R_drew)); exact HO481037.out) (Kd.R_base ho0) hb); have n1_ := Aside0.mk (Kd.R_lower (Kd.R_new' ho0 (Kd.R_lt (by (with_reducible repeat (first | apply Kd.R_alloc | apply Kd.R_drewN | apply Kd.R_drew)); exact HO481037.out))) (below_size (by repeat (first | (with_reducible first | exact HB.out | apply below_alloc | apply pw_below_drewN | apply below_drew1) | exact HB.out)))); have n2_ := Aside0.mk (below_step (by repeat (first | (with_reducible first | exact HB.out | apply below_alloc | apply pw_below_drewN | apply below_drew1) | exact HB.out)) hb); clear HO481037; clear HB; have HO481037 := n0_; have HO481040 := n1_; have HB := n2_; clear n0_ n1_ n2_; (try clear hb); (try clear hb2); (try clear hk); (try clear hi); (try clear ho0)))
                                                go_ret2
                                                exact ⟨_, by first | rfl | (simp [errW_none, errW_some] <;> rfl) | (simp only [← hji22, ← hji24, ← hji26, ← hji30]; first | rfl | (simp [errW_none, errW_some] <;> rfl)) | (simp [*, errW_none, errW_some] <;> rfl), by (with_reducible repeat (first | apply Kd.R_alloc | apply Kd.R_drewN | apply Kd.R_drew)); exact Kd.R_mono HO481040.out (fun _ hk => trivial), by repeat (first | (with_reducible first | exact HB.out | apply below_alloc | apply pw_below_drewN | apply below_drew1) | exact HB.out)⟩
                                              · rw [if_neg c48] at H
                                                exact absurd H (by simp)
                                            · rw [if_neg c46] at H
                                              exact absurd H (by simp)
                                          · rw [if_neg c45] at H
                                            exact absurd H (by simp)
                                        · rw [if_neg c44] at H
                                          exact absurd H (by simp)
                                      · rw [if_neg c43] at H
                                        exact absurd H (by simp)
                                    · rw [if_neg c41] at H
                                      exact absurd H (by simp)
                                  · rw [if_neg c40] at H
                                    exact absurd H (by simp)
                                · rw [if_neg c39] at H
                                  exact absurd H (by simp)
                              · rw [if_neg c38] at H
                                exact absurd H (by simp)
                            · rw [if_neg c37] at H
                              exact absurd H (by simp)
                          · rw [if_neg c36] at H
                            exact absurd H (by simp)
                        · rw [if_neg c35] at H
                          exact absurd H (by simp)
                      · rw [if_neg c34] at H
                        exact absurd H (by simp)
                    · rw [if_neg c33] at H
                      exact absurd H (by simp)
                  · rw [if_neg c32] at H
                    exact absurd H (by simp)
                · rw [if_neg c31] at H
                  exact absurd H (by simp)
              · rw [if_neg c28] at H
                exact absurd H (by simp)
            · rw [if_neg c27] at H
              exact absurd H (by simp)
          · rw [if_neg c21] at H
            have c21b0 : (x8_18 == 0) = false := beq_eq_false_iff_ne.mpr c21
            have c21b1 : (x8_18 != 0) = true := bne_iff_ne.mpr c21
            simp only [Option.some.injEq, Prod.mk.injEq] at H
            obtain ⟨rfl, rfl⟩ := H
            go_wp2
            go_ret2
            exact ⟨_, by first | rfl | (simp [errW_none, errW_some] <;> rfl) | (simp [*, errW_none, errW_some] <;> rfl), by first | exact Kd.R_nil _ _ _ _ _ | exact Kd.N_nil _ _ _ _ _ | exact Kd.V_nil _ _ _ _ _ | exact Kd.Q_nil _ _ _ _ _ | exact Kd.S_nil _ _ _ _ _, by repeat (first | (with_reducible first | exact HB.out | apply below_alloc | apply pw_below_drewN | apply below_drew1) | exact HB.out)⟩

end Go.Proofs.Ytfijnlbkflmkbaa.F
