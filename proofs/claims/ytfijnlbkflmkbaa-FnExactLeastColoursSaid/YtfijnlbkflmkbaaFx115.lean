/- What spec_l10Colour answers, and that the Go text comes to it: for every world in which the arguments read as told. -/
import Derived.Test.YtfijnlbkflmkbaaFgA
namespace Go.Proofs.Ytfijnlbkflmkbaa.F
open Go.RowKit Go.Proofs.YtfijnlbkflmkbaaW.PrintWords Go.Proofs.YtfijnlbkflmkbaaW.PrintLast Go.Proofs.YtfijnlbkflmkbaaW.PrintMore
attribute [local go_sem] max2_int min2_int max_two min_two max_three min_three max_four min_four   -- for this text's walks alone
set_option linter.unusedVariables false
set_option linter.unusedSimpArgs false

/-! ### spec_l10Colour: function 115 -/
mutual
def spec_l10Colour.l0 : Nat → List (List Int) → List Int → Int → Int → Int → Int → Option (Int)
 | 0, _, _, _, _, _, _ => none
 | k + 1, x0, x1, x2, x7, x8, x9 => if x9 < x2 then (spec_l10Colour.l1 k x0 x1 x2 x7 x8 x9 true 0) else (some x8)
def spec_l10Colour.l1 : Nat → List (List Int) → List Int → Int → Int → Int → Int → Bool → Int → Option (Int)
 | 0, _, _, _, _, _, _, _, _ => none
 | k + 1, x0, x1, x2, x7, x8, x9, x10, x11 => if x11 < x7 then (if x10 = true then (if 0 ≤ x7 then (if x7 < (x0.length : Int) then (if 0 ≤ x11 then (if x11 < ((rd_L1 x0 x7).length : Int) then (if (rd (rd_L1 x0 x7) x11) = 0 then (spec_l10Colour.l1 k x0 x1 x2 x7 x8 x9 true (wrap64 (x11 + 1))) else (if x11 < (x1.length : Int) then (spec_l10Colour.l1 k x0 x1 x2 x7 x8 x9 ((rd x1 x11) != x9) (wrap64 (x11 + 1))) else (none))) else (none)) else (none)) else (none)) else (none)) else (spec_l10Colour.l1 k x0 x1 x2 x7 x8 x9 false (wrap64 (x11 + 1)))) else (if x10 = true then ((spec_l01Own.f x1).bind fun t1151004 => (if t1151004.length < 17592186044416 then ((spec_l10Colour.f k x0 (t1151004 ++ [x9]) x2).bind fun t1151010 => (spec_l10Colour.l0 k x0 x1 x2 x7 (wrap64 (x8 + t1151010)) (wrap64 (x9 + 1)))) else (none))) else (spec_l10Colour.l0 k x0 x1 x2 x7 x8 (wrap64 (x9 + 1))))
def spec_l10Colour.f : Nat → List (List Int) → List Int → Int → Option (Int)
 | 0, _, _, _ => none
 | k + 1, l0, l1, a2 => if (l1.length : Int) = (l0.length : Int) then (some 1) else (spec_l10Colour.l0 k l0 l1 a2 (l1.length : Int) 0 0)
end
theorem spec_l10Colour.mono_l : ∀ k, (∀ y0 y1 y2, LeO (spec_l10Colour.f k y0 y1 y2) (spec_l10Colour.f (k + 1) y0 y1 y2)) ∧ (∀ y0 y1 y2 y3 y4 y5, LeO (spec_l10Colour.l0 k y0 y1 y2 y3 y4 y5) (spec_l10Colour.l0 (k + 1) y0 y1 y2 y3 y4 y5)) ∧ (∀ y0 y1 y2 y3 y4 y5 y6 y7, LeO (spec_l10Colour.l1 k y0 y1 y2 y3 y4 y5 y6 y7) (spec_l10Colour.l1 (k + 1) y0 y1 y2 y3 y4 y5 y6 y7))
 | 0 => ⟨fun _ _ _ r h => by simp [spec_l10Colour.f] at h, fun _ _ _ _ _ _ r h => by simp [spec_l10Colour.l0] at h, fun _ _ _ _ _ _ _ _ r h => by simp [spec_l10Colour.l1] at h⟩
 | k + 1 => by
  obtain ⟨ih0, ih1, ih2⟩ := spec_l10Colour.mono_l k
  refine ⟨?_, ?_, ?_⟩
  ·intro y0 y1 y2
   unfold spec_l10Colour.f
   repeat' first
   | (with_reducible exact ih0 _ _ _)
   | (with_reducible exact ih1 _ _ _ _ _ _)
   | (with_reducible exact ih2 _ _ _ _ _ _ _ _)
   | (with_reducible exact LeO.refl _)
   | (with_reducible exact LeO.none _)
   | (with_reducible refine LeO.ite ?_ ?_)
   | (with_reducible refine LeO.bind ?_ (fun _ => ?_))
   | exact ih0 _ _ _
   | exact ih1 _ _ _ _ _ _
   | exact ih2 _ _ _ _ _ _ _ _
   | exact LeO.none _
   | refine LeO.ite ?_ ?_
   | refine LeO.bind ?_ (fun _ => ?_)
  ·intro y0 y1 y2 y3 y4 y5
   unfold spec_l10Colour.l0
   repeat' first
   | (with_reducible exact ih0 _ _ _)
   | (with_reducible exact ih1 _ _ _ _ _ _)
   | (with_reducible exact ih2 _ _ _ _ _ _ _ _)
   | (with_reducible exact LeO.refl _)
   | (with_reducible exact LeO.none _)
   | (with_reducible refine LeO.ite ?_ ?_)
   | (with_reducible refine LeO.bind ?_ (fun _ => ?_))
   | exact ih0 _ _ _
   | exact ih1 _ _ _ _ _ _
   | exact ih2 _ _ _ _ _ _ _ _
   | exact LeO.none _
   | refine LeO.ite ?_ ?_
   | refine LeO.bind ?_ (fun _ => ?_)
  ·intro y0 y1 y2 y3 y4 y5 y6 y7
   unfold spec_l10Colour.l1
   repeat' first
   | (with_reducible exact ih0 _ _ _)
   | (with_reducible exact ih1 _ _ _ _ _ _)
   | (with_reducible exact ih2 _ _ _ _ _ _ _ _)
   | (with_reducible exact LeO.refl _)
   | (with_reducible exact LeO.none _)
   | (with_reducible refine LeO.ite ?_ ?_)
   | (with_reducible refine LeO.bind ?_ (fun _ => ?_))
   | exact ih0 _ _ _
   | exact ih1 _ _ _ _ _ _
   | exact ih2 _ _ _ _ _ _ _ _
   | exact LeO.none _
   | refine LeO.ite ?_ ?_
   | refine LeO.bind ?_ (fun _ => ?_)
theorem spec_l10Colour.mono : ∀ a0 a1 a2 k, LeO (spec_l10Colour.f k a0 a1 a2) (spec_l10Colour.f (k + 1) a0 a1 a2) := by
 intro a0 a1 a2 k
 obtain ⟨ih0, ih1, ih2⟩ := spec_l10Colour.mono_l k
 exact ih0 a0 a1 a2
set_option maxHeartbeats 8000000 in
set_option maxRecDepth 100000 in
theorem spec_l10Colour.calls (k : Nat) : ∀ (A0 : Option Addr) (c0 : Nat) (l0 : List (List Int)) (A1 : Option Addr) (c1 : Nat) (l1 : List Int) (a2 : Int) (r : Int) (w : World) (hr0 : Kd.C (Kd.slice 2 (Kd.int .i64)) w A0 l0.length l0) (hc0 : l0.length ≤ c0) (hr1 : Kd.C (Kd.int .i64) w A1 l1.length l1) (hc1 : l1.length ≤ c1) (h : spec_l10Colour.f k l0 l1 a2 = some r),
  Calls Try.prog 115 #[.slice A0 l0.length c0, .slice A1 l1.length c1, .int .i64 a2] w fun e w' => e = .returned (.int .i64 r) ∧ Below w.heap.size w w' := by
 induction k using Nat.strongRecOn with
 | _ k ih =>
 intro A0 c0 l0 A1 c1 l1 a2 r w hr0 hc0 hr1 hc1 h
 cases k with
 | zero => exact absurd h (by simp [spec_l10Colour.f])
 | succ k =>
 simp only [spec_l10Colour.f] at h
 have HR0 := Aside0.mk hr0
 have HC0 := Aside0.mk hc0
 clear hr0 hc0
 have HR1 := Aside0.mk hr1
 have HC1 := Aside0.mk hc1
 clear hr1 hc1
 have HB := Aside0.mk (Below.refl w.heap.size w)
 have H : (if (l1.length : Int) = (l0.length : Int) then (some 1) else (spec_l10Colour.l0 k l0 l1 a2 (l1.length : Int) 0 0)) = some r := h
 clear h
 by_cases c4 : (l1.length : Int) = (l0.length : Int)
 ·rw [if_pos c4] at H
  have c4b0 : ((l1.length : Int) == (l0.length : Int)) = true := beq_iff_eq.mpr c4
  have c4b1 : ((l1.length : Int) != (l0.length : Int)) = false := bne_eq_false_iff_eq.mpr c4
  have c4b2 : (l1.length == l0.length) = true := by first | simpa using c4 | (simp at c4 ⊢; omega)
  clear c4
  obtain rfl := Option.some.inj H
  go_enter Try.func115, Try.ntmps115
  go_wp2
  go_ret
  exact ⟨by first | rfl | (simp [errW_none, errW_some] <;> rfl) | (simp [*, errW_none, errW_some] <;> rfl), by repeat (first | (with_reducible first | exact HB.out | apply below_alloc | apply pw_below_drewN | apply below_drew1) | exact HB.out)⟩
 ·rw [if_neg c4] at H
  have c4b0 : ((l1.length : Int) == (l0.length : Int)) = false := beq_eq_false_iff_ne.mpr c4
  have c4b1 : ((l1.length : Int) != (l0.length : Int)) = true := bne_iff_ne.mpr c4
  have c4b2 : (l1.length == l0.length) = false := by first | simpa using c4 | (simp at c4 ⊢; omega)
  have H' := Aside0.mk H
  clear H
  go_enter Try.func115, Try.ntmps115
  go_wp2
  go_loopg [8, 9] k (fun kq v8 v9 w' => ∃ (x8_1 : Int) (x9_1 : Int), v8 = .int .i64 x8_1 ∧ v9 = .int .i64 x9_1 ∧ Aside0 (spec_l10Colour.l0 kq l0 l1 a2 (l1.length : Int) x8_1 x9_1 = some r) ∧ Aside0 (kq ≤ k) ∧ Aside0 (Below w.heap.size w w'))
  case atStart => exact ⟨(0), (0), (by first | rfl | (simp; done) | (simp [*]; done)), (by first | rfl | (simp; done) | (simp [*]; done)), H', ⟨Nat.le_refl _⟩, ⟨by repeat (first | (with_reducible first | exact HB.out | apply below_alloc | apply pw_below_drewN | apply below_drew1) | exact HB.out)⟩⟩
  case round =>
   clear H'
   try clear c1
   try clear p2
   try clear c4
   try clear c4b0
   try clear c4b1
   try clear c4b2
   obtain ⟨x8_1, x9_1, rfl, rfl, HA, HK1, HB⟩ := hrel
   cases gk with
   | zero => exact absurd HA.out (by simp [spec_l10Colour.l0])
   | succ k1 =>
    have H := HA.out
    clear HA
    simp only [spec_l10Colour.l0] at H
    by_cases c5 : x9_1 < a2
    ·rw [if_pos c5] at H
     have c5b0 : decide (x9_1 < a2) = true := decide_eq_true c5
     clear c5
     have H' := Aside0.mk H
     clear H
     go_wp2
     go_loopg [10, 11] k1 (fun kq v10 v11 w' => ∃ (x10_2 : Bool) (x11_2 : Int), v10 = .bool x10_2 ∧ v11 = .int .i64 x11_2 ∧ Aside0 (spec_l10Colour.l1 kq l0 l1 a2 (l1.length : Int) x8_1 x9_1 x10_2 x11_2 = some r) ∧ Aside0 (kq ≤ k1) ∧ Aside0 (Below w.heap.size w w'))
     case atStart => exact ⟨(true), (0), (by first | rfl | (simp; done) | (simp [*]; done)), (by first | rfl | (simp; done) | (simp [*]; done)), H', ⟨Nat.le_refl _⟩, ⟨by repeat (first | (with_reducible first | exact HB.out | apply below_alloc | apply pw_below_drewN | apply below_drew1) | exact HB.out)⟩⟩
     case round =>
      clear H'
      try clear c1
      try clear p2
      try clear c4
      try clear c4b0
      try clear c4b1
      try clear c4b2
      try clear c5
      try clear c5b0
      try clear p2
      obtain ⟨x10_2, x11_2, rfl, rfl, HA, HK2, HB⟩ := hrel
      cases gk with
      | zero => exact absurd HA.out (by simp [spec_l10Colour.l1])
      | succ k2 =>
       have H := HA.out
       clear HA
       simp only [spec_l10Colour.l1] at H
       by_cases c6 : x11_2 < (l1.length : Int)
       ·rw [if_pos c6] at H
        have c6b0 : decide (x11_2 < (l1.length : Int)) = true := decide_eq_true c6
        clear c6
        by_cases c7 : x10_2 = true
        ·subst c7
         have H1 : (if 0 ≤ (l1.length : Int) then (if (l1.length : Int) < (l0.length : Int) then (if 0 ≤ x11_2 then (if x11_2 < ((rd_L1 l0 (l1.length : Int)).length : Int) then (if (rd (rd_L1 l0 (l1.length : Int)) x11_2) = 0 then (spec_l10Colour.l1 k2 l0 l1 a2 (l1.length : Int) x8_1 x9_1 true (wrap64 (x11_2 + 1))) else (if x11_2 < (l1.length : Int) then (spec_l10Colour.l1 k2 l0 l1 a2 (l1.length : Int) x8_1 x9_1 ((rd l1 x11_2) != x9_1) (wrap64 (x11_2 + 1))) else (none))) else (none)) else (none)) else (none)) else (none)) = some r := by rw [if_pos rfl] at H; exact H
         clear H
         have H := H1
         clear H1
         by_cases c8 : 0 ≤ (l1.length : Int)
         ·rw [if_pos c8] at H
          have c8b0 : decide (0 ≤ (l1.length : Int)) = true := decide_eq_true c8
          have c8b1 : decide (0 ≤ l1.length) = true := decide_eq_true (by omega)
          clear c8
          by_cases c9 : (l1.length : Int) < (l0.length : Int)
          ·rw [if_pos c9] at H
           have c9b0 : decide ((l1.length : Int) < (l0.length : Int)) = true := decide_eq_true c9
           have c9b1 : decide (l1.length < l0.length) = true := decide_eq_true (Int.ofNat_lt.mp c9)
           clear c9
           by_cases c10 : 0 ≤ x11_2
           ·rw [if_pos c10] at H
            have c10b0 : decide (0 ≤ x11_2) = true := decide_eq_true c10
            clear c10
            by_cases c11 : x11_2 < ((rd_L1 l0 (l1.length : Int)).length : Int)
            ·rw [if_pos c11] at H
             have c11b0 : decide (x11_2 < ((rd_L1 l0 (l1.length : Int)).length : Int)) = true := decide_eq_true c11
             clear c11
             by_cases c12 : (rd (rd_L1 l0 (l1.length : Int)) x11_2) = 0
             ·rw [if_pos c12] at H
              have c12b0 : ((rd (rd_L1 l0 (l1.length : Int)) x11_2) == 0) = true := beq_iff_eq.mpr c12
              have c12b1 : ((rd (rd_L1 l0 (l1.length : Int)) x11_2) != 0) = false := bne_eq_false_iff_eq.mpr c12
              clear c12
              have H' := Aside0.mk H
              clear H
              have p1151001 : 0 ≤ ((l1.length : Int) : Int) := of_decide_eq_true (by first | (with_reducible assumption) | assumption)
              have q1151001 : (l1.length : Int) < (l0.length : Int) := of_decide_eq_true (by first | (with_reducible assumption) | assumption)
              obtain ⟨ad1151001, A1151001_0, c1151001_0, e1151001, hx1151001_0, hl1151001_0, hi1151001_0⟩ := at_L1 HR0.out (l1.length : Int) p1151001 q1151001
              cases e1151001
              replace hx1151001_0 := (HB.out.cell (World.block_lt_of_cell? w _ hx1151001_0)).trans hx1151001_0
              have HR1151001_0 := Aside0.mk hi1151001_0
              have HC1151001_0 := Aside0.mk hl1151001_0
              clear hi1151001_0 hl1151001_0
              (try simp only [Go.IntWalk.toNatUp] at hx1151001_0)
              replace p1151001 := eq_true p1151001
              replace q1151001 := eq_true q1151001
              have p1151002 : 0 ≤ (x11_2 : Int) := of_decide_eq_true (by first | (with_reducible assumption) | assumption)
              have q1151002 : x11_2 < ((rd_L1 l0 (l1.length : Int)).length : Int) := of_decide_eq_true (by first | (with_reducible assumption) | assumption)
              obtain ⟨ad1151002, e1151002, hx1151002_0⟩ := Kd.at_int HR1151001_0.out x11_2 p1151002 q1151002
              cases e1151002
              replace hx1151002_0 := (HB.out.cell (World.block_lt_of_cell? w _ hx1151002_0)).trans hx1151002_0
              replace p1151002 := eq_true p1151002
              replace q1151002 := eq_true q1151002
              go_wp2
              go_roundg k2
              case measure => have := HK1.out; have := HK2.out; omega
              case rel => exact ⟨(true), (wrap64 (x11_2 + 1)), (by first | rfl | (simp; done) | (simp [*]; done)), (by first | rfl | (simp; done) | (simp [*]; done)), H', ⟨by have := HK1.out; have := HK2.out; omega⟩, ⟨by repeat (first | (with_reducible first | exact HB.out | apply below_alloc | apply pw_below_drewN | apply below_drew1) | exact HB.out)⟩⟩
             ·rw [if_neg c12] at H
              have c12b0 : ((rd (rd_L1 l0 (l1.length : Int)) x11_2) == 0) = false := beq_eq_false_iff_ne.mpr c12
              have c12b1 : ((rd (rd_L1 l0 (l1.length : Int)) x11_2) != 0) = true := bne_iff_ne.mpr c12
              by_cases c13 : x11_2 < (l1.length : Int)
              ·rw [if_pos c13] at H
               have c13b0 : decide (x11_2 < (l1.length : Int)) = true := decide_eq_true c13
               clear c13
               have H' := Aside0.mk H
               clear H
               have p1151001 : 0 ≤ ((l1.length : Int) : Int) := of_decide_eq_true (by first | (with_reducible assumption) | assumption)
               have q1151001 : (l1.length : Int) < (l0.length : Int) := of_decide_eq_true (by first | (with_reducible assumption) | assumption)
               obtain ⟨ad1151001, A1151001_0, c1151001_0, e1151001, hx1151001_0, hl1151001_0, hi1151001_0⟩ := at_L1 HR0.out (l1.length : Int) p1151001 q1151001
               cases e1151001
               replace hx1151001_0 := (HB.out.cell (World.block_lt_of_cell? w _ hx1151001_0)).trans hx1151001_0
               have HR1151001_0 := Aside0.mk hi1151001_0
               have HC1151001_0 := Aside0.mk hl1151001_0
               clear hi1151001_0 hl1151001_0
               (try simp only [Go.IntWalk.toNatUp] at hx1151001_0)
               replace p1151001 := eq_true p1151001
               replace q1151001 := eq_true q1151001
               have p1151002 : 0 ≤ (x11_2 : Int) := of_decide_eq_true (by first | (with_reducible assumption) | assumption)
               have q1151002 : x11_2 < ((rd_L1 l0 (l1.length : Int)).length : Int) := of_decide_eq_true (by first | (with_reducible assumption) | assumption)
               obtain ⟨ad1151002, e1151002, hx1151002_0⟩ := Kd.at_int HR1151001_0.out x11_2 p1151002 q1151002
               cases e1151002
               replace hx1151002_0 := (HB.out.cell (World.block_lt_of_cell? w _ hx1151002_0)).trans hx1151002_0
               replace p1151002 := eq_true p1151002
               replace q1151002 := eq_true q1151002
               have p1151003 : 0 ≤ (x11_2 : Int) := of_decide_eq_true (by first | (with_reducible assumption) | assumption)
               have q1151003 : x11_2 < (l1.length : Int) := of_decide_eq_true (by first | (with_reducible assumption) | assumption)
               obtain ⟨ad1151003, e1151003, hx1151003_0⟩ := Kd.at_int HR1.out x11_2 p1151003 q1151003
               cases e1151003
               replace hx1151003_0 := (HB.out.cell (World.block_lt_of_cell? w _ hx1151003_0)).trans hx1151003_0
               replace p1151003 := eq_true p1151003
               replace q1151003 := eq_true q1151003
               go_wp2
               go_roundg k2
               case measure => have := HK1.out; have := HK2.out; omega
               case rel => exact ⟨(((rd l1 x11_2) != x9_1)), (wrap64 (x11_2 + 1)), (by first | rfl | (simp; done) | (simp [*]; done)), (by first | rfl | (simp; done) | (simp [*]; done)), H', ⟨by have := HK1.out; have := HK2.out; omega⟩, ⟨by repeat (first | (with_reducible first | exact HB.out | apply below_alloc | apply pw_below_drewN | apply below_drew1) | exact HB.out)⟩⟩
              ·rw [if_neg c13] at H
               exact absurd H (by simp)
            ·rw [if_neg c11] at H
             exact absurd H (by simp)
           ·rw [if_neg c10] at H
            exact absurd H (by simp)
          ·rw [if_neg c9] at H
           exact absurd H (by simp)
         ·rw [if_neg c8] at H
          exact absurd H (by simp)
        ·replace c7 := Bool.eq_false_iff.mpr c7
         subst c7
         have H1 : (spec_l10Colour.l1 k2 l0 l1 a2 (l1.length : Int) x8_1 x9_1 false (wrap64 (x11_2 + 1))) = some r := by rw [if_neg (show ¬ (false = true) by decide)] at H; exact H
         clear H
         have H := H1
         clear H1
         have H' := Aside0.mk H
         clear H
         go_wp2
         go_roundg k2
         case measure => have := HK1.out; have := HK2.out; omega
         case rel => exact ⟨(false), (wrap64 (x11_2 + 1)), (by first | rfl | (simp; done) | (simp [*]; done)), (by first | rfl | (simp; done) | (simp [*]; done)), H', ⟨by have := HK1.out; have := HK2.out; omega⟩, ⟨by repeat (first | (with_reducible first | exact HB.out | apply below_alloc | apply pw_below_drewN | apply below_drew1) | exact HB.out)⟩⟩
       ·rw [if_neg c6] at H
        have c6b0 : decide (x11_2 < (l1.length : Int)) = false := decide_eq_false c6
        clear c6
        by_cases c14 : x10_2 = true
        ·subst c14
         have H1 : ((spec_l01Own.f l1).bind fun t1151004 => (if t1151004.length < 17592186044416 then ((spec_l10Colour.f k2 l0 (t1151004 ++ [x9_1]) a2).bind fun t1151010 => (spec_l10Colour.l0 k2 l0 l1 a2 (l1.length : Int) (wrap64 (x8_1 + t1151010)) (wrap64 (x9_1 + 1)))) else (none))) = some r := by rw [if_pos rfl] at H; exact H
         clear H
         have H := H1
         clear H1
         replace H := Option.bind_eq_some_iff.mp H
         obtain ⟨t1151004, A150, H⟩ := H
         replace H : (if t1151004.length < 17592186044416 then ((spec_l10Colour.f k2 l0 (t1151004 ++ [x9_1]) a2).bind fun t1151010 => (spec_l10Colour.l0 k2 l0 l1 a2 (l1.length : Int) (wrap64 (x8_1 + t1151010)) (wrap64 (x9_1 + 1)))) else (none)) = some r := H
         have A15 := Aside0.mk A150
         clear A150
         by_cases c16 : t1151004.length < 17592186044416
         ·rw [if_pos c16] at H
          have LMc16 := Aside0.mk c16
          clear c16
          obtain ⟨y1151007, hy1151007⟩ : ∃ y_ : List Int, y_ = (t1151004 ++ [x9_1]) := ⟨_, rfl⟩
          replace H : ((spec_l10Colour.f k2 l0 y1151007 a2).bind fun t1151010 => (spec_l10Colour.l0 k2 l0 l1 a2 (l1.length : Int) (wrap64 (x8_1 + t1151010)) (wrap64 (x9_1 + 1)))) = some r := by first | (rw [hy1151007]; with_reducible exact H) | (have H2_ := (Option.bind_some _ _).symm.trans H; rw [hy1151007]; with_reducible exact H2_) | (have H2_ := (Option.bind_some _ _).symm.trans H; with_reducible exact H2_) | with_reducible exact H | (rw [hy1151007]; exact H) | exact H
          have Ny1151007 := Aside0.mk hy1151007
          clear hy1151007
          replace H := Option.bind_eq_some_iff.mp H
          obtain ⟨t1151010, A170, H⟩ := H
          replace H : (spec_l10Colour.l0 k2 l0 l1 a2 (l1.length : Int) (wrap64 (x8_1 + t1151010)) (wrap64 (x9_1 + 1))) = some r := H
          have A17 := Aside0.mk A170
          clear A170
          have H' := Aside0.mk H
          clear H
          go_wp2_with (first | ((with_reducible refine gate_callee (f := 100) rfl ?_); refine goesL_ (some 51) rfl rfl Try.func100 (by kernel_rfl) rfl #[.slice A1 l1.length c1] rfl (by (try simp only [List.map_toArray, List.map_cons, List.map_nil]); first | done | rfl | (simp only [List.length_drop, List.length_take]; rfl)) ?_; (with_reducible refine (spec_l01Own.calls _ _ l1 t1151004 _ ?side1 ?side2 A15.out).mono ?_); (case side1 => repeat (first | exact (Kd.C_below HR1.out HB.out) | (with_reducible refine Kd.C_alloc ?_ _) | (with_reducible refine Kd.C_drewN ?_ _) | (with_reducible refine Kd.C_drew ?_))); (case side2 => exact HC1.out); rintro e w18 ⟨v1151005, rfl, ho0, hb⟩; refine ⟨_, rfl, ?_⟩; have n0_ := Aside0.mk (Kd.R_lower ho0 (below_size (by repeat (first | (with_reducible first | exact HB.out | apply below_alloc | apply pw_below_drewN | apply below_drew1) | exact HB.out)))); have n1_ := Aside0.mk (below_step (by repeat (first | (with_reducible first | exact HB.out | apply below_alloc | apply pw_below_drewN | apply below_drew1) | exact HB.out)) hb); clear HB; have HO1151006 := n0_; have HB := n1_; clear n0_ n1_; (try clear hb); (try clear hb2); (try clear hk); (try clear hi); (try clear ho0)) | ((with_reducible refine gate_builtin (b := .append) (xs := #[.tmp 51, .tmp 53]) rfl ?_); at_builtin; refine Kd.R_append (Kd.int .i64) (w0 := w) w.heap.size rfl (.tmp 51) (.tmp 53) 22 2 (.int .i64 0) 8 rfl Try.underlying22 info2 rfl (by decide) (by omega) v1151005 t1151004 x9_1 [.int .i64 x9_1] (fun _ => True) (fun _ => False) rfl rfl ?aP (fun _ hk => hk.elim) ?aF ?aO ?aB ?aS ?aL ?_; (case aP => exact rfl); (case aB => exact (by repeat (first | (with_reducible first | exact HB.out | apply below_alloc | apply pw_below_drewN | apply below_drew1) | exact HB.out))); (case aF => exact (fun _ _ => trivial)); (case aO => exact (by (with_reducible repeat (first | apply Kd.R_alloc | apply Kd.R_drewN | apply Kd.R_drew)); exact HO1151006.out)); (case aS => exact (below_size (by repeat (first | (with_reducible first | exact HB.out | apply below_alloc | apply pw_below_drewN | apply below_drew1) | exact HB.out)))); (case aL => have := LMc16.out; omega); intro v1151008 w19 ho hb hg hat; rw [← Ny1151007.out] at ho; have n0_ := Aside0.mk (hb); have n1_ := Aside0.mk (ho); clear HB; clear HO1151006; have HB := n0_; have HO1151009 := n1_; clear n0_ n1_; clear ho hb hg hat; obtain ⟨Ao20, co20, eo20⟩ := Kd.R_slice HO1151009.out; subst eo20) | ((with_reducible refine gate_callee (f := 115) rfl ?_); refine goesL_ (some 56) rfl rfl Try.func115 (by kernel_rfl) rfl #[.slice A0 l0.length c0, .slice Ao20 y1151007.length co20, .int .i64 a2] rfl (by (try simp only [List.map_toArray, List.map_cons, List.map_nil]); first | done | rfl | (simp only [List.length_drop, List.length_take]; rfl)) ?_; (with_reducible refine (ih k2 (by have := HK1.out; have := HK2.out; omega) _ _ l0 _ _ y1151007 a2 t1151010 _ ?side1 ?side2 ?side3 ?side4 A17.out).mono ?_); (case side1 => repeat (first | exact (Kd.C_below HR0.out HB.out) | (with_reducible refine Kd.C_alloc ?_ _) | (with_reducible refine Kd.C_drewN ?_ _) | (with_reducible refine Kd.C_drew ?_))); (case side2 => exact HC0.out); (case side3 => repeat (first | exact (Kd.R_reads' HO1151009.out).2.2 | (with_reducible refine Kd.C_alloc ?_ _) | (with_reducible refine Kd.C_drewN ?_ _) | (with_reducible refine Kd.C_drew ?_))); (case side4 => exact (Kd.R_reads' HO1151009.out).2.1); rintro e w21 ⟨rfl, hb⟩; refine ⟨_, rfl, ?_⟩; have n0_ := Aside0.mk (Kd.R_below (by (with_reducible repeat (first | apply Kd.R_alloc | apply Kd.R_drewN | apply Kd.R_drew)); exact HO1151009.out) hb); have n1_ := Aside0.mk (below_step (by repeat (first | (with_reducible first | exact HB.out | apply below_alloc | apply pw_below_drewN | apply below_drew1) | exact HB.out)) hb); clear HO1151009; clear HB; have HO1151009 := n0_; have HB := n1_; clear n0_ n1_; (try clear hb); (try clear hb2); (try clear hk); (try clear hi)))
          go_roundg k2
          case measure => have := HK1.out; have := HK2.out; omega
          case rel => exact ⟨(wrap64 (x8_1 + t1151010)), (wrap64 (x9_1 + 1)), (by first | rfl | (simp; done) | (simp [*]; done)), (by first | rfl | (simp; done) | (simp [*]; done)), H', ⟨by have := HK1.out; have := HK2.out; omega⟩, ⟨by repeat (first | (with_reducible first | exact HB.out | apply below_alloc | apply pw_below_drewN | apply below_drew1) | exact HB.out)⟩⟩
         ·rw [if_neg c16] at H
          exact absurd H (by simp)
        ·replace c14 := Bool.eq_false_iff.mpr c14
         subst c14
         have H1 : (spec_l10Colour.l0 k2 l0 l1 a2 (l1.length : Int) x8_1 (wrap64 (x9_1 + 1))) = some r := by rw [if_neg (show ¬ (false = true) by decide)] at H; exact H
         clear H
         have H := H1
         clear H1
         have H' := Aside0.mk H
         clear H
         go_wp2
         go_roundg k2
         case measure => have := HK1.out; have := HK2.out; omega
         case rel => exact ⟨(x8_1), (wrap64 (x9_1 + 1)), (by first | rfl | (simp; done) | (simp [*]; done)), (by first | rfl | (simp; done) | (simp [*]; done)), H', ⟨by have := HK1.out; have := HK2.out; omega⟩, ⟨by repeat (first | (with_reducible first | exact HB.out | apply below_alloc | apply pw_below_drewN | apply below_drew1) | exact HB.out)⟩⟩
    ·rw [if_neg c5] at H
     have c5b0 : decide (x9_1 < a2) = false := decide_eq_false c5
     clear c5
     obtain rfl := Option.some.inj H
     go_wp2
     go_ret
     exact ⟨by first | rfl | (simp [errW_none, errW_some] <;> rfl) | (simp [*, errW_none, errW_some] <;> rfl), by repeat (first | (with_reducible first | exact HB.out | apply below_alloc | apply pw_below_drewN | apply below_drew1) | exact HB.out)⟩

end Go.Proofs.Ytfijnlbkflmkbaa.F
