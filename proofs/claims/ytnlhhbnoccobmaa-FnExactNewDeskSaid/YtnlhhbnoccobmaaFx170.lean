/- What laws_heldTermS answers, and that the Go text comes to it: for every world in which the arguments read as told. -/
import Derived.Test.YtnlhhbnoccobmaaFgA
namespace Go.Proofs.Ytnlhhbnoccobmaa.F
open Go.RowKit Go.Proofs.YtnlhhbnoccobmaaW.PrintWords Go.Proofs.YtnlhhbnoccobmaaW.PrintLast Go.Proofs.YtnlhhbnoccobmaaW.PrintMore
attribute [local go_sem] max2_int min2_int max_two min_two max_three min_three max_four min_four   -- for this text's walks alone
set_option linter.unusedVariables false
set_option linter.unusedSimpArgs false

/-! ### laws_heldTermS: function 170 -/
def laws_heldTermS.l0 : Nat → List (S165) → Int → Int → Option (Int)
  | 0, _, _, _ => none
  | k + 1, x0, x1, x5 => if x5 < (x0.length : Int) then (if 0 ≤ x5 then ((laws_heldInt64S.f k ((rd_T165 x0 x5).f0) x1).bind fun t1701002 => (if t1701002 < 0 then (some (-1)) else (if ((rd_T165 x0 x5).f1) = t1701002 then (laws_heldTermS.l0 k x0 (wrap64 (t1701002 + 1)) (wrap64 (x5 + 1))) else (some (-1))))) else (none)) else (some x1)
def laws_heldTermS.f (k : Nat) (l0 : List (S165)) (a1 : Int) : Option (Int) := laws_heldTermS.l0 k l0 a1 0
theorem laws_heldTermS.mono_l : ∀ k, (∀ y0 y1 y2, LeO (laws_heldTermS.l0 k y0 y1 y2) (laws_heldTermS.l0 (k + 1) y0 y1 y2))
  | 0 => fun _ _ _ r h => by simp [laws_heldTermS.l0] at h
  | k + 1 => by
    have ih0 := laws_heldTermS.mono_l k
    · intro y0 y1 y2
      unfold laws_heldTermS.l0
      repeat' first
      | (with_reducible exact ih0 _ _ _)
      | (with_reducible exact laws_heldInt64S.mono _ _ _)
      | (with_reducible exact LeO.refl _)
      | (with_reducible exact LeO.none _)
      | (with_reducible refine LeO.ite ?_ ?_)
      | (with_reducible refine LeO.bind ?_ (fun _ => ?_))
      | exact ih0 _ _ _
      | exact laws_heldInt64S.mono _ _ _
      | exact LeO.none _
      | refine LeO.ite ?_ ?_
      | refine LeO.bind ?_ (fun _ => ?_)
theorem laws_heldTermS.mono : ∀ a0 a1 k, LeO (laws_heldTermS.f k a0 a1) (laws_heldTermS.f (k + 1) a0 a1) := by
  intro a0 a1 k
  have ih0 := laws_heldTermS.mono_l k
  unfold laws_heldTermS.f
  repeat' first
      | (with_reducible exact ih0 _ _ _)
      | (with_reducible exact laws_heldInt64S.mono _ _ _)
      | (with_reducible exact LeO.refl _)
      | (with_reducible exact LeO.none _)
      | (with_reducible refine LeO.ite ?_ ?_)
      | (with_reducible refine LeO.bind ?_ (fun _ => ?_))
      | exact ih0 _ _ _
      | exact laws_heldInt64S.mono _ _ _
      | exact LeO.none _
      | refine LeO.ite ?_ ?_
      | refine LeO.bind ?_ (fun _ => ?_)
set_option maxHeartbeats 8000000 in
set_option maxRecDepth 100000 in
theorem laws_heldTermS.calls (k : Nat) (A0 : Option Addr) (c0 : Nat) (l0 : List (S165)) (a1 : Int) (r : Int) (w : World) (hr0 : Kd.C k165 w A0 l0.length l0) (hc0 : l0.length ≤ c0) (h : laws_heldTermS.f k l0 a1 = some r) :
    Calls Try.prog 170 #[.slice A0 l0.length c0, .int .i64 a1] w fun e w' => e = .returned (.int .i64 r) ∧ Drawn0 w w' := by
  have HR0 := Aside0.mk hr0
  have HC0 := Aside0.mk hc0
  clear hr0 hc0
  have H : (laws_heldTermS.l0 k l0 a1 0) = some r := h
  clear h
  have H' := Aside0.mk H
  clear H
  go_enter Try.func170, Try.ntmps170
  go_wp2
  go_loopg [1, 5] k (fun kq v1 v5 w' => ∃ (x1_1 : Int) (x5_1 : Int), v1 = .int .i64 x1_1 ∧ v5 = .int .i64 x5_1 ∧ Aside0 (laws_heldTermS.l0 kq l0 x1_1 x5_1 = some r) ∧ Aside0 (kq ≤ k) ∧ Drawn0 w w')
  case atStart => exact ⟨(a1), (0), (by first | rfl | (simp; done) | (simp [*]; done)), (by first | rfl | (simp; done) | (simp [*]; done)), H', ⟨Nat.le_refl _⟩, by repeat (first | exact Drawn0.refl _ | apply Drawn0.step)⟩
  case round =>
    clear H'
    try clear c1
    try clear p2
    obtain ⟨x1_1, x5_1, rfl, rfl, HA, HK1, ⟨m1, rfl⟩⟩ := hrel
    cases gk with
    | zero => exact absurd HA.out (by simp [laws_heldTermS.l0])
    | succ k1 =>
      have H := HA.out
      clear HA
      simp only [laws_heldTermS.l0] at H
      by_cases c3 : x5_1 < (l0.length : Int)
      · rw [if_pos c3] at H
        have c3b0 : decide (x5_1 < (l0.length : Int)) = true := decide_eq_true c3
        clear c3
        by_cases c4 : 0 ≤ x5_1
        · rw [if_pos c4] at H
          have c4b0 : decide (0 ≤ x5_1) = true := decide_eq_true c4
          clear c4
          replace H := Option.bind_eq_some_iff.mp H
          obtain ⟨t1701002, A50, H⟩ := H
          replace H : (if t1701002 < 0 then (some (-1)) else (if ((rd_T165 l0 x5_1).f1) = t1701002 then (laws_heldTermS.l0 k1 l0 (wrap64 (t1701002 + 1)) (wrap64 (x5_1 + 1))) else (some (-1)))) = some r := H
          have A5 := Aside0.mk A50
          clear A50
          by_cases c6 : t1701002 < 0
          · rw [if_pos c6] at H
            have c6b0 : decide (t1701002 < 0) = true := decide_eq_true c6
            clear c6
            obtain rfl := Option.some.inj H
            have p1701001 : 0 ≤ (x5_1 : Int) := of_decide_eq_true (by first | (with_reducible assumption) | assumption)
            have q1701001 : x5_1 < (l0.length : Int) := of_decide_eq_true (by first | (with_reducible assumption) | assumption)
            obtain ⟨ad1701001, A1701001_0, c1701001_0, e1701001, hx1701001_0, hx1701001_1, hl1701001_0, hi1701001_0⟩ := at_T165 HR0.out x5_1 p1701001 q1701001
            cases e1701001
            have HR1701001_0 := Aside0.mk hi1701001_0
            have HC1701001_0 := Aside0.mk hl1701001_0
            clear hi1701001_0 hl1701001_0
            replace p1701001 := eq_true p1701001
            replace q1701001 := eq_true q1701001
            go_wp2_with (first | ((with_reducible refine gate_callee (f := 39) rfl ?_); refine goesL_ (some 18) rfl rfl Try.func39 (by kernel_rfl) rfl #[.slice A1701001_0 ((rd_T165 l0 x5_1).f0).length c1701001_0, .int .i64 x1_1] rfl (by (try simp only [List.map_toArray, List.map_cons, List.map_nil]); first | done | rfl | (simp only [List.length_drop, List.length_take]; rfl)) ?_; (with_reducible refine (laws_heldInt64S.calls k1 _ _ ((rd_T165 l0 x5_1).f0) x1_1 t1701002 _ ?side1 ?side2 A5.out).mono ?_); (case side1 => repeat (first | exact HR1701001_0.out | (with_reducible refine Kd.C_alloc ?_ _) | (with_reducible refine Kd.C_drewN ?_ _) | (with_reducible refine Kd.C_drew ?_))); (case side2 => exact HC1701001_0.out); rintro e w' ⟨rfl, ⟨nd, rfl⟩⟩; refine ⟨_, rfl, ?_⟩))
            go_ret
            exact ⟨by first | rfl | (simp; done) | (simp [*]; done), by repeat (first | exact Drawn0.refl _ | apply Drawn0.step)⟩
          · rw [if_neg c6] at H
            have c6b0 : decide (t1701002 < 0) = false := decide_eq_false c6
            clear c6
            by_cases c7 : ((rd_T165 l0 x5_1).f1) = t1701002
            · rw [if_pos c7] at H
              have c7b0 : (((rd_T165 l0 x5_1).f1) == t1701002) = true := beq_iff_eq.mpr c7
              have c7b1 : (((rd_T165 l0 x5_1).f1) != t1701002) = false := bne_eq_false_iff_eq.mpr c7
              clear c7
              have H' := Aside0.mk H
              clear H
              have p1701001 : 0 ≤ (x5_1 : Int) := of_decide_eq_true (by first | (with_reducible assumption) | assumption)
              have q1701001 : x5_1 < (l0.length : Int) := of_decide_eq_true (by first | (with_reducible assumption) | assumption)
              obtain ⟨ad1701001, A1701001_0, c1701001_0, e1701001, hx1701001_0, hx1701001_1, hl1701001_0, hi1701001_0⟩ := at_T165 HR0.out x5_1 p1701001 q1701001
              cases e1701001
              have HR1701001_0 := Aside0.mk hi1701001_0
              have HC1701001_0 := Aside0.mk hl1701001_0
              clear hi1701001_0 hl1701001_0
              replace p1701001 := eq_true p1701001
              replace q1701001 := eq_true q1701001
              go_wp2_with (first | ((with_reducible refine gate_callee (f := 39) rfl ?_); refine goesL_ (some 18) rfl rfl Try.func39 (by kernel_rfl) rfl #[.slice A1701001_0 ((rd_T165 l0 x5_1).f0).length c1701001_0, .int .i64 x1_1] rfl (by (try simp only [List.map_toArray, List.map_cons, List.map_nil]); first | done | rfl | (simp only [List.length_drop, List.length_take]; rfl)) ?_; (with_reducible refine (laws_heldInt64S.calls k1 _ _ ((rd_T165 l0 x5_1).f0) x1_1 t1701002 _ ?side1 ?side2 A5.out).mono ?_); (case side1 => repeat (first | exact HR1701001_0.out | (with_reducible refine Kd.C_alloc ?_ _) | (with_reducible refine Kd.C_drewN ?_ _) | (with_reducible refine Kd.C_drew ?_))); (case side2 => exact HC1701001_0.out); rintro e w' ⟨rfl, ⟨nd, rfl⟩⟩; refine ⟨_, rfl, ?_⟩; have p1701003 : 0 ≤ (x5_1 : Int) := of_decide_eq_true (by first | (with_reducible assumption) | assumption); have q1701003 : x5_1 < (l0.length : Int) := of_decide_eq_true (by first | (with_reducible assumption) | assumption); obtain ⟨ad1701003, A1701003_0, c1701003_0, e1701003, hx1701003_0, hx1701003_1, hl1701003_0, hi1701003_0⟩ := at_T165 HR0.out x5_1 p1701003 q1701003; obtain rfl : ad1701001 = ad1701003 := (by injection e1701003); have HR1701003_0 := Aside0.mk hi1701003_0; have HC1701003_0 := Aside0.mk hl1701003_0; clear hi1701003_0 hl1701003_0; replace p1701003 := eq_true p1701003; replace q1701003 := eq_true q1701003; have ea_ := Option.some.inj (hx1701001_0.symm.trans hx1701003_0); injection ea_ with ea_ en_ ec_; subst ea_; subst ec_; clear en_))
              go_roundg k1
              case measure => have := HK1.out; omega
              case rel => exact ⟨(wrap64 (t1701002 + 1)), (wrap64 (x5_1 + 1)), (by first | rfl | (simp; done) | (simp [*]; done)), (by first | rfl | (simp; done) | (simp [*]; done)), H', ⟨by have := HK1.out; omega⟩, by repeat (first | exact Drawn0.refl _ | apply Drawn0.step)⟩
            · rw [if_neg c7] at H
              have c7b0 : (((rd_T165 l0 x5_1).f1) == t1701002) = false := beq_eq_false_iff_ne.mpr c7
              have c7b1 : (((rd_T165 l0 x5_1).f1) != t1701002) = true := bne_iff_ne.mpr c7
              obtain rfl := Option.some.inj H
              have p1701001 : 0 ≤ (x5_1 : Int) := of_decide_eq_true (by first | (with_reducible assumption) | assumption)
              have q1701001 : x5_1 < (l0.length : Int) := of_decide_eq_true (by first | (with_reducible assumption) | assumption)
              obtain ⟨ad1701001, A1701001_0, c1701001_0, e1701001, hx1701001_0, hx1701001_1, hl1701001_0, hi1701001_0⟩ := at_T165 HR0.out x5_1 p1701001 q1701001
              cases e1701001
              have HR1701001_0 := Aside0.mk hi1701001_0
              have HC1701001_0 := Aside0.mk hl1701001_0
              clear hi1701001_0 hl1701001_0
              replace p1701001 := eq_true p1701001
              replace q1701001 := eq_true q1701001
              go_wp2_with (first | ((with_reducible refine gate_callee (f := 39) rfl ?_); refine goesL_ (some 18) rfl rfl Try.func39 (by kernel_rfl) rfl #[.slice A1701001_0 ((rd_T165 l0 x5_1).f0).length c1701001_0, .int .i64 x1_1] rfl (by (try simp only [List.map_toArray, List.map_cons, List.map_nil]); first | done | rfl | (simp only [List.length_drop, List.length_take]; rfl)) ?_; (with_reducible refine (laws_heldInt64S.calls k1 _ _ ((rd_T165 l0 x5_1).f0) x1_1 t1701002 _ ?side1 ?side2 A5.out).mono ?_); (case side1 => repeat (first | exact HR1701001_0.out | (with_reducible refine Kd.C_alloc ?_ _) | (with_reducible refine Kd.C_drewN ?_ _) | (with_reducible refine Kd.C_drew ?_))); (case side2 => exact HC1701001_0.out); rintro e w' ⟨rfl, ⟨nd, rfl⟩⟩; refine ⟨_, rfl, ?_⟩; have p1701003 : 0 ≤ (x5_1 : Int) := of_decide_eq_true (by first | (with_reducible assumption) | assumption); have q1701003 : x5_1 < (l0.length : Int) := of_decide_eq_true (by first | (with_reducible assumption) | assumption); obtain ⟨ad1701003, A1701003_0, c1701003_0, e1701003, hx1701003_0, hx1701003_1, hl1701003_0, hi1701003_0⟩ := at_T165 HR0.out x5_1 p1701003 q1701003; obtain rfl : ad1701001 = ad1701003 := (by injection e1701003); have HR1701003_0 := Aside0.mk hi1701003_0; have HC1701003_0 := Aside0.mk hl1701003_0; clear hi1701003_0 hl1701003_0; replace p1701003 := eq_true p1701003; replace q1701003 := eq_true q1701003; have ea_ := Option.some.inj (hx1701001_0.symm.trans hx1701003_0); injection ea_ with ea_ en_ ec_; subst ea_; subst ec_; clear en_))
              go_ret
              exact ⟨by first | rfl | (simp; done) | (simp [*]; done), by repeat (first | exact Drawn0.refl _ | apply Drawn0.step)⟩
        · rw [if_neg c4] at H
          exact absurd H (by simp)
      · rw [if_neg c3] at H
        have c3b0 : decide (x5_1 < (l0.length : Int)) = false := decide_eq_false c3
        clear c3
        obtain rfl := Option.some.inj H
        go_wp2
        go_ret
        exact ⟨by first | rfl | (simp; done) | (simp [*]; done), by repeat (first | exact Drawn0.refl _ | apply Drawn0.step)⟩

end Go.Proofs.Ytnlhhbnoccobmaa.F
