/- What spec_l10Match answers, and that the Go text comes to it: for every world in which the arguments read as told. -/
import Derived.Test.YtfijnlbkflmkbaaFgA
namespace Go.Proofs.Ytfijnlbkflmkbaa.F
open Go.RowKit Go.Proofs.YtfijnlbkflmkbaaW.PrintWords Go.Proofs.YtfijnlbkflmkbaaW.PrintLast Go.Proofs.YtfijnlbkflmkbaaW.PrintMore
attribute [local go_sem] max2_int min2_int max_two min_two max_three min_three max_four min_four   -- for this text's walks alone
set_option linter.unusedVariables false
set_option linter.unusedSimpArgs false

/-! ### spec_l10Match: function 108 -/
mutual
def spec_l10Match.j1 : Nat → List (List Int) → Int → Int → Int → List Int → Option (List Int)
 | 0, _, _, _, _, _ => none
 | k + 1, x0, x1, x2, x3, x4 => if x1 ≥ (x0.length : Int) then (if 0 ≤ x3 then (if x3 < (x4.length : Int) then (some (x4.set (x3 : Int).toNat (wrap64 ((rd x4 x3) + 1)))) else (none)) else (none)) else ((spec_l10Match.f k x0 (wrap64 (x1 + 1)) x2 x3 x4).bind fun t1081003 => (spec_l10Match.l1 k x0 x1 x2 x3 t1081003 (wrap64 (x1 + 1))))
def spec_l10Match.l1 : Nat → List (List Int) → Int → Int → Int → List Int → Int → Option (List Int)
 | 0, _, _, _, _, _, _ => none
 | k + 1, x0, x1, x2, x3, x4, x10 => if x10 < (x0.length : Int) then (if 0 ≤ x1 then (if x1 < (x0.length : Int) then (if 0 ≤ x10 then (if x10 < ((rd_L1 x0 x1).length : Int) then (if (rd (rd_L1 x0 x1) x10) = 1 then (if 0 ≤ (IntKind.u64.wrap (x10)) then (if (Go.bits .and .i64 (shr .i64 x2 (IntKind.u64.wrap (x10))) 1) = 0 then ((spec_l10Match.f k x0 (wrap64 (x1 + 1)) (Go.bits .or .i64 x2 (shl .i64 1 (IntKind.u64.wrap (x10)))) (wrap64 (x3 + 1)) x4).bind fun t1081006 => (spec_l10Match.l1 k x0 x1 x2 x3 t1081006 (wrap64 (x10 + 1)))) else (spec_l10Match.l1 k x0 x1 x2 x3 x4 (wrap64 (x10 + 1)))) else (none)) else (spec_l10Match.l1 k x0 x1 x2 x3 x4 (wrap64 (x10 + 1)))) else (none)) else (none)) else (none)) else (none)) else (some x4)
def spec_l10Match.l0 : Nat → List (List Int) → Int → Int → Int → List Int → Option (List Int)
 | 0, _, _, _, _, _ => none
 | k + 1, x0, x1, x2, x3, x4 => if x1 < (x0.length : Int) then (if 0 ≤ (IntKind.u64.wrap (x1)) then (if (Go.bits .and .i64 (shr .i64 x2 (IntKind.u64.wrap (x1))) 1) = 1 then (spec_l10Match.l0 k x0 (wrap64 (x1 + 1)) x2 x3 x4) else (spec_l10Match.j1 k x0 x1 x2 x3 x4)) else (none)) else (spec_l10Match.j1 k x0 x1 x2 x3 x4)
def spec_l10Match.f : Nat → List (List Int) → Int → Int → Int → List Int → Option (List Int)
 | 0, _, _, _, _, _ => none
 | k + 1, l0, a1, a2, a3, l4 => spec_l10Match.l0 k l0 a1 a2 a3 l4
end
theorem spec_l10Match.mono_l : ∀ k, (∀ y0 y1 y2 y3 y4, LeO (spec_l10Match.f k y0 y1 y2 y3 y4) (spec_l10Match.f (k + 1) y0 y1 y2 y3 y4)) ∧ (∀ y0 y1 y2 y3 y4, LeO (spec_l10Match.j1 k y0 y1 y2 y3 y4) (spec_l10Match.j1 (k + 1) y0 y1 y2 y3 y4)) ∧ (∀ y0 y1 y2 y3 y4 y5, LeO (spec_l10Match.l1 k y0 y1 y2 y3 y4 y5) (spec_l10Match.l1 (k + 1) y0 y1 y2 y3 y4 y5)) ∧ (∀ y0 y1 y2 y3 y4, LeO (spec_l10Match.l0 k y0 y1 y2 y3 y4) (spec_l10Match.l0 (k + 1) y0 y1 y2 y3 y4))
 | 0 => ⟨fun _ _ _ _ _ r h => by simp [spec_l10Match.f] at h, fun _ _ _ _ _ r h => by simp [spec_l10Match.j1] at h, fun _ _ _ _ _ _ r h => by simp [spec_l10Match.l1] at h, fun _ _ _ _ _ r h => by simp [spec_l10Match.l0] at h⟩
 | k + 1 => by
  obtain ⟨ih0, ih1, ih2, ih3⟩ := spec_l10Match.mono_l k
  refine ⟨?_, ?_, ?_, ?_⟩
  ·intro y0 y1 y2 y3 y4
   unfold spec_l10Match.f
   repeat' first
   | (with_reducible exact ih0 _ _ _ _ _)
   | (with_reducible exact ih1 _ _ _ _ _)
   | (with_reducible exact ih2 _ _ _ _ _ _)
   | (with_reducible exact ih3 _ _ _ _ _)
   | (with_reducible exact LeO.refl _)
   | (with_reducible exact LeO.none _)
   | (with_reducible refine LeO.ite ?_ ?_)
   | (with_reducible refine LeO.bind ?_ (fun _ => ?_))
   | exact ih0 _ _ _ _ _
   | exact ih1 _ _ _ _ _
   | exact ih2 _ _ _ _ _ _
   | exact ih3 _ _ _ _ _
   | exact LeO.none _
   | refine LeO.ite ?_ ?_
   | refine LeO.bind ?_ (fun _ => ?_)
  ·intro y0 y1 y2 y3 y4
   unfold spec_l10Match.j1
   repeat' first
   | (with_reducible exact ih0 _ _ _ _ _)
   | (with_reducible exact ih1 _ _ _ _ _)
   | (with_reducible exact ih2 _ _ _ _ _ _)
   | (with_reducible exact ih3 _ _ _ _ _)
   | (with_reducible exact LeO.refl _)
   | (with_reducible exact LeO.none _)
   | (with_reducible refine LeO.ite ?_ ?_)
   | (with_reducible refine LeO.bind ?_ (fun _ => ?_))
   | exact ih0 _ _ _ _ _
   | exact ih1 _ _ _ _ _
   | exact ih2 _ _ _ _ _ _
   | exact ih3 _ _ _ _ _
   | exact LeO.none _
   | refine LeO.ite ?_ ?_
   | refine LeO.bind ?_ (fun _ => ?_)
  ·intro y0 y1 y2 y3 y4 y5
   unfold spec_l10Match.l1
   repeat' first
   | (with_reducible exact ih0 _ _ _ _ _)
   | (with_reducible exact ih1 _ _ _ _ _)
   | (with_reducible exact ih2 _ _ _ _ _ _)
   | (with_reducible exact ih3 _ _ _ _ _)
   | (with_reducible exact LeO.refl _)
   | (with_reducible exact LeO.none _)
   | (with_reducible refine LeO.ite ?_ ?_)
   | (with_reducible refine LeO.bind ?_ (fun _ => ?_))
   | exact ih0 _ _ _ _ _
   | exact ih1 _ _ _ _ _
   | exact ih2 _ _ _ _ _ _
   | exact ih3 _ _ _ _ _
   | exact LeO.none _
   | refine LeO.ite ?_ ?_
   | refine LeO.bind ?_ (fun _ => ?_)
  ·intro y0 y1 y2 y3 y4
   unfold spec_l10Match.l0
   repeat' first
   | (with_reducible exact ih0 _ _ _ _ _)
   | (with_reducible exact ih1 _ _ _ _ _)
   | (with_reducible exact ih2 _ _ _ _ _ _)
   | (with_reducible exact ih3 _ _ _ _ _)
   | (with_reducible exact LeO.refl _)
   | (with_reducible exact LeO.none _)
   | (with_reducible refine LeO.ite ?_ ?_)
   | (with_reducible refine LeO.bind ?_ (fun _ => ?_))
   | exact ih0 _ _ _ _ _
   | exact ih1 _ _ _ _ _
   | exact ih2 _ _ _ _ _ _
   | exact ih3 _ _ _ _ _
   | exact LeO.none _
   | refine LeO.ite ?_ ?_
   | refine LeO.bind ?_ (fun _ => ?_)
theorem spec_l10Match.mono : ∀ a0 a1 a2 a3 a4 k, LeO (spec_l10Match.f k a0 a1 a2 a3 a4) (spec_l10Match.f (k + 1) a0 a1 a2 a3 a4) := by
 intro a0 a1 a2 a3 a4 k
 obtain ⟨ih0, ih1, ih2, ih3⟩ := spec_l10Match.mono_l k
 exact ih0 a0 a1 a2 a3 a4
set_option maxHeartbeats 8000000 in
set_option maxRecDepth 100000 in
theorem spec_l10Match.calls (k : Nat) : ∀ (A0 : Option Addr) (c0 : Nat) (l0 : List (List Int)) (a1 : Int) (a2 : Int) (a3 : Int) (P4_ : Nat → Prop) (u9000_ : Value) (l4 : List Int) (r : List Int) (w0 w : World) (hB : Below w0.heap.size w0 w) (hr0 : ∀ W_, Kept w W_ (fun k_ => P4_ k_) → Kd.C (Kd.slice 2 (Kd.int .i64)) W_ A0 l0.length l0) (hc0 : l0.length ≤ c0) (ho4 : Kd.R (Kd.int .i64) 2 w w0.heap.size P4_ u9000_ l4) (h : spec_l10Match.f k l0 a1 a2 a3 l4 = some r),
  Calls Try.prog 108 #[.slice A0 l0.length c0, .int .i64 a1, .int .i64 a2, .int .i64 a3, u9000_] w fun e w' => e = .returned (.tuple #[]) ∧ Kd.R (Kd.int .i64) 2 w' w0.heap.size (fun k_ => (P4_ k_ ∨ w.heap.size ≤ k_)) u9000_ r ∧ Below w0.heap.size w0 w' ∧ Kept w w' (fun k_ => P4_ k_) := by
 induction k using Nat.strongRecOn with
 | _ k ih =>
 intro A0 c0 l0 a1 a2 a3 P4_ u9000_ l4 r w0 w hB hr0 hc0 ho4 h
 cases k with
 | zero => exact absurd h (by simp [spec_l10Match.f])
 | succ k =>
 simp only [spec_l10Match.f] at h
 have HR0 := Aside0.mk hr0
 have HC0 := Aside0.mk hc0
 clear hr0 hc0
 have HO4 := Aside0.mk (show Kd.R (Kd.int .i64) 2 w w0.heap.size (fun k_ => (P4_ k_ ∨ w.heap.size ≤ k_)) u9000_ l4 from Kd.R_mono ho4 (fun k_ hk => (.inl hk)))
 have HK := Aside0.mk (Kept.refl w (fun k_ => P4_ k_))
 have HW0 := Aside0.mk hB.size
 have HB := Aside0.mk hB
 clear hB
 have H : (spec_l10Match.l0 k l0 a1 a2 a3 l4) = some r := h
 clear h
 have HC6 := Aside0.mk H
 clear H
 go_enter Try.func108, Try.ntmps108
 go_upto_block 0 with (fail)
 go_cut [1] (fun v1 wc => ∃ (kq : Nat) (x1_5 : Int), v1 = .int .i64 x1_5 ∧ Aside0 (spec_l10Match.j1 kq l0 x1_5 a2 a3 l4 = some r) ∧ Aside0 (kq ≤ k) ∧ Aside0 (Kd.R (Kd.int .i64) 2 wc w0.heap.size (fun k_ => (P4_ k_ ∨ w.heap.size ≤ k_)) u9000_ l4) ∧ Aside0 (Kept w wc (fun k_ => P4_ k_)) ∧ Aside0 (Below w0.heap.size w0 wc))
 case first =>
  have H := HC6.out
  clear HC6
  have H' := Aside0.mk H
  clear H
  go_wp2
  go_loopg [1] k (fun kq v1 w' => ∃ (x1_1 : Int), v1 = .int .i64 x1_1 ∧ Aside0 (spec_l10Match.l0 kq l0 x1_1 a2 a3 l4 = some r) ∧ Aside0 (kq ≤ k) ∧ Aside0 (Kd.R (Kd.int .i64) 2 w' w0.heap.size (fun k_ => (P4_ k_ ∨ w.heap.size ≤ k_)) u9000_ l4) ∧ Aside0 (Kept w w' (fun k_ => P4_ k_)) ∧ Aside0 (Below w0.heap.size w0 w'))
  case atStart => exact ⟨(a1), (by first | rfl | (simp; done) | (simp [*]; done)), H', ⟨Nat.le_refl _⟩, ⟨by (with_reducible repeat (first | apply Kd.R_alloc | apply Kd.R_drewN | apply Kd.R_drew)); exact HO4.out⟩, ⟨by repeat (first | (with_reducible first | exact HK.out | apply Kept.alloc | apply Kept.drewN | apply Kept.drew) | exact HK.out)⟩, ⟨by repeat (first | (with_reducible first | exact HB.out | apply below_alloc | apply pw_below_drewN | apply below_drew1) | exact HB.out)⟩⟩
  case round =>
   clear H'
   try clear c1
   try clear p2
   obtain ⟨x1_1, rfl, HA, HK1, HO_4, HK, HB⟩ := hrel
   cases gk with
   | zero => exact absurd HA.out (by simp [spec_l10Match.l0])
   | succ k1 =>
    have H := HA.out
    clear HA
    simp only [spec_l10Match.l0] at H
    by_cases c7 : x1_1 < (l0.length : Int)
    ·rw [if_pos c7] at H
     have c7b0 : decide (x1_1 < (l0.length : Int)) = true := decide_eq_true c7
     clear c7
     (first | rw [c7b0] | (simp only [i64_w, i32_w]; rw [c7b0]) | skip)
     obtain ⟨ji8, hji8⟩ : ∃ j_ : Int, (IntKind.u64.wrap (x1_1)) = j_ := ⟨_, rfl⟩
     replace H : (if 0 ≤ (ji8) then (if (Go.bits .and .i64 (shr .i64 a2 (ji8)) 1) = 1 then (spec_l10Match.l0 k1 l0 (wrap64 (x1_1 + 1)) a2 a3 l4) else (spec_l10Match.j1 k1 l0 x1_1 a2 a3 l4)) else (none)) = some r := by first | (rw [hji8] at H; exact H) | (simp only [hji8] at H ⊢; exact H)
     by_cases c9 : 0 ≤ (ji8)
     ·rw [if_pos c9] at H
      have c9b0 := eq_true c9
      have c9b1 : decide (0 ≤ (ji8)) = true := decide_eq_true c9
      clear c9
      obtain ⟨ji10, hji10⟩ : ∃ j_ : Int, (shr .i64 a2 (ji8)) = j_ := ⟨_, rfl⟩
      replace H : (if (Go.bits .and .i64 (ji10) 1) = 1 then (spec_l10Match.l0 k1 l0 (wrap64 (x1_1 + 1)) a2 a3 l4) else (spec_l10Match.j1 k1 l0 x1_1 a2 a3 l4)) = some r := by first | (rw [hji10] at H; exact H) | (simp only [hji10] at H ⊢; exact H)
      have hji10_ : (a2 / 2 ^ min (ji8).toNat 64) = ji10 := hji10
      have hji10z : (ji8) ≤ 64 → (a2 / 2 ^ (ji8).toNat) = ji10 := shr_small hji10
      by_cases c11 : (Go.bits .and .i64 (ji10) 1) = 1
      ·rw [if_pos c11] at H
       have c11b0 : ((Go.bits .and .i64 (ji10) 1) == 1) = true := beq_iff_eq.mpr c11
       have c11b1 : ((Go.bits .and .i64 (ji10) 1) != 1) = false := bne_eq_false_iff_eq.mpr c11
       clear c11
       have H' := Aside0.mk H
       clear H
       go_wp2
       go_roundg k1
       case measure => have := HK1.out; omega
       case rel => exact ⟨(wrap64 (x1_1 + 1)), (by first | rfl | (simp; done) | (simp [*]; done)), H', ⟨by have := HK1.out; omega⟩, ⟨by (with_reducible repeat (first | apply Kd.R_alloc | apply Kd.R_drewN | apply Kd.R_drew)); exact HO_4.out⟩, ⟨by repeat (first | (with_reducible first | exact HK.out | apply Kept.alloc | apply Kept.drewN | apply Kept.drew) | exact HK.out)⟩, ⟨by repeat (first | (with_reducible first | exact HB.out | apply below_alloc | apply pw_below_drewN | apply below_drew1) | exact HB.out)⟩⟩
      ·rw [if_neg c11] at H
       have c11b0 : ((Go.bits .and .i64 (ji10) 1) == 1) = false := beq_eq_false_iff_ne.mpr c11
       have c11b1 : ((Go.bits .and .i64 (ji10) 1) != 1) = true := bne_iff_ne.mpr c11
       have H' := Aside0.mk H
       clear H
       go_wp2
       go_meet
       case rel => exact ⟨_, (x1_1), (by first | rfl | (simp; done) | (simp [*]; done)), H', ⟨by have := HK1.out; first | omega | exact Nat.le_refl _⟩, ⟨by (with_reducible repeat (first | apply Kd.R_alloc | apply Kd.R_drewN | apply Kd.R_drew)); exact HO_4.out⟩, ⟨by repeat (first | (with_reducible first | exact HK.out | apply Kept.alloc | apply Kept.drewN | apply Kept.drew) | exact HK.out)⟩, ⟨by repeat (first | (with_reducible first | exact HB.out | apply below_alloc | apply pw_below_drewN | apply below_drew1) | exact HB.out)⟩⟩
     ·rw [if_neg c9] at H
      exact absurd H (by simp)
    ·rw [if_neg c7] at H
     have c7b0 : decide (x1_1 < (l0.length : Int)) = false := decide_eq_false c7
     clear c7
     (first | rw [c7b0] | (simp only [i64_w, i32_w]; rw [c7b0]) | skip)
     have H' := Aside0.mk H
     clear H
     go_wp2
     go_meet
     case rel => exact ⟨_, (x1_1), (by first | rfl | (simp; done) | (simp [*]; done)), H', ⟨by have := HK1.out; first | omega | exact Nat.le_refl _⟩, ⟨by (with_reducible repeat (first | apply Kd.R_alloc | apply Kd.R_drewN | apply Kd.R_drew)); exact HO_4.out⟩, ⟨by repeat (first | (with_reducible first | exact HK.out | apply Kept.alloc | apply Kept.drewN | apply Kept.drew) | exact HK.out)⟩, ⟨by repeat (first | (with_reducible first | exact HB.out | apply below_alloc | apply pw_below_drewN | apply below_drew1) | exact HB.out)⟩⟩
 case rest =>
  clear HC6
  try clear c1
  try clear p2
  try clear p6
  try clear c7
  try clear c7b0
  try clear c9
  try clear c9b0
  try clear c9b1
  try clear c10
  try clear c11
  try clear c11b0
  try clear c11b1
  try clear p2
  obtain ⟨kq, x1_5, rfl, HA, HJ5, HO_4, HK, HB⟩ := hcut
  cases kq with
  | zero => exact absurd HA.out (by simp [spec_l10Match.j1])
  | succ kj5 =>
   have H := HA.out
   clear HA
   simp only [spec_l10Match.j1] at H
   by_cases c12 : x1_5 ≥ (l0.length : Int)
   ·rw [if_pos c12] at H
    have c12b0 : decide ((l0.length : Int) ≤ x1_5) = true := decide_eq_true c12
    clear c12
    by_cases c13 : 0 ≤ a3
    ·rw [if_pos c13] at H
     have c13b0 : decide (0 ≤ a3) = true := decide_eq_true c13
     clear c13
     by_cases c14 : a3 < (l4.length : Int)
     ·rw [if_pos c14] at H
      have c14b0 : decide (a3 < (l4.length : Int)) = true := decide_eq_true c14
      clear c14
      obtain ⟨y1081002, hy1081002⟩ : ∃ y_ : List Int, y_ = (l4.set (a3 : Int).toNat (wrap64 ((rd l4 a3) + 1))) := ⟨_, rfl⟩
      replace H : (some y1081002) = some r := by first | (rw [hy1081002]; with_reducible exact H) | (have H2_ := (Option.bind_some _ _).symm.trans H; rw [hy1081002]; with_reducible exact H2_) | (have H2_ := (Option.bind_some _ _).symm.trans H; with_reducible exact H2_) | with_reducible exact H | (rw [hy1081002]; exact H) | exact H
      have Ny1081002 := Aside0.mk hy1081002
      clear hy1081002
      obtain rfl := Option.some.inj H
      obtain ⟨Ao16, co16, eo16⟩ := Kd.R_slice HO_4.out
      subst eo16
      have p1081001 : 0 ≤ (a3 : Int) := of_decide_eq_true (by first | (with_reducible assumption) | assumption)
      have q1081001 : a3 < (l4.length : Int) := of_decide_eq_true (by first | (with_reducible assumption) | assumption)
      obtain ⟨ad1081001, e1081001, hx1081001_0⟩ := Kd.at_int (Kd.R_reads' HO_4.out).2.2 a3 p1081001 q1081001
      cases e1081001
      replace p1081001 := eq_true p1081001
      replace q1081001 := eq_true q1081001
      have p15 : 0 ≤ (a3 : Int) := of_decide_eq_true (by first | (with_reducible assumption) | assumption)
      have q15 : (a3 : Int) < ((l4.length : Int) : Int) := of_decide_eq_true (by first | (with_reducible assumption) | assumption)
      obtain ⟨go15, co15, eo15, gb15, gl15, cl15, HG15⟩ := Kd.R_form HO_4.out (by omega)
      (first | cases eo15 | (injection eo15 with ea_ en_ ec_; (first | subst ea_ | (injection ea_ with ea_; subst ea_)); subst ec_; clear en_))
      have GB15 := Aside0.mk gb15
      have GG15 := Aside0.mk HG15
      clear gb15 gl15 HG15
      have HMgo15 := Aside0.mk (show (P4_ go15 ∨ w.heap.size ≤ go15) from (HO_4.out.1 _ rfl))
      (first | simp only [add_plain] at hx1081001_0 | skip)
      obtain ⟨hx15_0, hf15_0⟩ := Kd.R_celln 0 HO_4.out (a3 : Int) p15 q15
      replace p15 := eq_true p15
      replace q15 := eq_true q15
      have HP17 := Kd.R_putg HO_4.out (a3 : Int) (wrap64 ((rd l4 a3) + 1))
      go_wp2_with (first | ((with_reducible refine gate_store (t := 2) (p := 34) rfl ?_); refine store_event (t := 2) (p := 34) (v := ?vo_w18) (w1 := (wc.setCell ⟨go15, (a3 : Int).toNat, none⟩ (.int .i64 (wrap64 ((rd l4 a3) + 1))))) ?hg ?ho ?hn ?hr ?_; (case ho => rfl); (case hg => rfl); (case hn => rfl); (case hr => first | (go_simp; done) | (go_simp; rfl)); intro w18 hw; have hg : wc.grownBy w18 (some go15) := (by rw [hw]; exact HP17.2); have hp_ : Kd.R (Kd.int .i64) 2 w18 w0.heap.size (fun k_ => (P4_ k_ ∨ w.heap.size ≤ k_)) (.slice (some ⟨go15, 0, none⟩) l4.length co16) y1081002 := (by rw [hw, Ny1081002.out]; exact HP17.1); clear HP17; have n0_ := Aside0.mk (hp_); have n1_ := Aside0.mk ((by rw [hw]; exact below_set (HB.out) GB15.out : Below w0.heap.size w0 w18)); have n2_ := Aside0.mk (Kept.of_grown (S := (fun k_ => P4_ k_)) hg (by repeat (first | (with_reducible first | exact HK.out | apply Kept.alloc | apply Kept.drewN | apply Kept.drew) | exact HK.out)) (fun k_ e_ => (HO_4.out.1 k_ e_))); clear HO_4; clear HB; clear HK; have HO_4 := n0_; have HB := n1_; have HK := n2_; clear n0_ n1_ n2_; clear hg hw hp_))
      first | go_end0 | ((try simp only [Exit.inBlock, Exit.then]); refine bodyPost_ret (results_none rfl _ _ _) rfl ?_)
      exact ⟨by first | rfl | (simp [errW_none, errW_some] <;> rfl) | (simp [*, errW_none, errW_some] <;> rfl), by (with_reducible repeat (first | apply Kd.R_alloc | apply Kd.R_drewN | apply Kd.R_drew)); exact HO_4.out, by repeat (first | (with_reducible first | exact HB.out | apply below_alloc | apply pw_below_drewN | apply below_drew1) | exact HB.out), by repeat (first | (with_reducible first | exact HK.out | apply Kept.alloc | apply Kept.drewN | apply Kept.drew) | exact HK.out)⟩
     ·rw [if_neg c14] at H
      exact absurd H (by simp)
    ·rw [if_neg c13] at H
     exact absurd H (by simp)
   ·rw [if_neg c12] at H
    have c12b0 : decide ((l0.length : Int) ≤ x1_5) = false := decide_eq_false c12
    clear c12
    replace H := Option.bind_eq_some_iff.mp H
    obtain ⟨t1081003, A190, H⟩ := H
    replace H : (spec_l10Match.l1 kj5 l0 x1_5 a2 a3 t1081003 (wrap64 (x1_5 + 1))) = some r := H
    have A19 := Aside0.mk A190
    clear A190
    have H' := Aside0.mk H
    clear H
    obtain ⟨Ao20, co20, eo20⟩ := Kd.R_slice HO_4.out
    subst eo20
    go_wp2_with (first | ((with_reducible refine gate_callee (f := 108) rfl ?_); refine goesL_ (some 41) rfl rfl Try.func108 (by kernel_rfl) rfl #[.slice A0 l0.length c0, .int .i64 (wrap64 (x1_5 + 1)), .int .i64 a2, .int .i64 a3, .slice Ao20 l4.length co20] rfl (by (try simp only [List.map_toArray, List.map_cons, List.map_nil]); first | done | rfl | (simp only [List.length_drop, List.length_take]; rfl)) ?_; (with_reducible refine (ih kj5 (by have := HJ5.out; omega) _ _ l0 (wrap64 (x1_5 + 1)) a2 a3 (fun k_ => some k_ = (.slice Ao20 l4.length co20 : Value).ownBlock) (.slice Ao20 l4.length co20) l4 t1081003 w0 _ ?side1 ?side2 ?side3 ?side4 A19.out).mono ?_); (case side1 => repeat (first | (with_reducible first | exact HB.out | apply below_alloc | apply pw_below_drewN | apply below_drew1) | exact HB.out)); (case side2 => exact Kd.C_kept_call HR0.out (by repeat (first | (with_reducible first | exact HK.out | apply Kept.alloc | apply Kept.drewN | apply Kept.drew) | exact HK.out)) (fun k_ hs_ => (fun e_ => (HO_4.out.1 k_ e_.symm)) hs_)); (case side3 => exact HC0.out); (case side4 => exact Kd.R_tight rfl HO_4.out); rintro e w21 ⟨rfl, hy0, hb, hkp⟩; refine ⟨_, rfl, ?_⟩; have n0_ := Aside0.mk (Kd.R_reok rfl hy0 (fun k_ e_ => HO_4.out.1 k_ e_)); have n1_ := Aside0.mk (Kept.then_ (S := (fun k_ => P4_ k_)) (by repeat (first | (with_reducible first | exact HK.out | apply Kept.alloc | apply Kept.drewN | apply Kept.drew) | exact HK.out)) hkp (fun k_ hs_ => (fun e_ => (HO_4.out.1 k_ e_.symm)) hs_)); have n2_ := Aside0.mk (hb); clear HO_4; clear HK; clear HB; have HO_4 := n0_; have HK := n1_; have HB := n2_; clear n0_ n1_ n2_; (try clear hb); (try clear hkp); (try clear hy0)))
    go_loopg [10] kj5 (fun kq v10 w' => ∃ (x4_2 : List Int) (x10_2 : Int), v10 = .int .i64 x10_2 ∧ Aside0 (spec_l10Match.l1 kq l0 x1_5 a2 a3 x4_2 x10_2 = some r) ∧ Aside0 (kq ≤ kj5) ∧ Aside0 (Kd.R (Kd.int .i64) 2 w' w0.heap.size (fun k_ => (P4_ k_ ∨ w.heap.size ≤ k_)) (.slice Ao20 l4.length co20) x4_2) ∧ Aside0 (Kept w w' (fun k_ => P4_ k_)) ∧ Aside0 (Below w0.heap.size w0 w'))
    case atStart => exact ⟨(t1081003), (wrap64 (x1_5 + 1)), (by first | rfl | (simp; done) | (simp [*]; done)), H', ⟨Nat.le_refl _⟩, ⟨by (with_reducible repeat (first | apply Kd.R_alloc | apply Kd.R_drewN | apply Kd.R_drew)); exact HO_4.out⟩, ⟨by repeat (first | (with_reducible first | exact HK.out | apply Kept.alloc | apply Kept.drewN | apply Kept.drew) | exact HK.out)⟩, ⟨by repeat (first | (with_reducible first | exact HB.out | apply below_alloc | apply pw_below_drewN | apply below_drew1) | exact HB.out)⟩⟩
    case round =>
     clear H'
     try clear c1
     try clear p1
     try clear q1
     try clear hx1
     try clear p2
     try clear p6
     try clear c7
     try clear c7b0
     try clear c9
     try clear c9b0
     try clear c9b1
     try clear c10
     try clear p10
     try clear q10
     try clear hx10
     try clear c11
     try clear c11b0
     try clear c11b1
     try clear c12
     try clear c12b0
     try clear c13
     try clear c13b0
     try clear c14
     try clear c14b0
     try clear p15
     try clear q15
     try clear hx15
     try clear hf15
     try clear hx1081001_0
     try clear hx15_0
     try clear p1081001
     try clear p15
     try clear p2
     try clear p6
     try clear q1081001
     try clear q15
     obtain ⟨x4_2, x10_2, rfl, HA, HK2, HO_4, HK, HB⟩ := hrel
     have hl4_2 := (Kd.R_reads' HO_4.out).1
     rw [hl4_2] at HO_4
     (try simp only [hl4_2])
     cases gk with
     | zero => exact absurd HA.out (by simp [spec_l10Match.l1])
     | succ k2 =>
      have H := HA.out
      clear HA
      simp only [spec_l10Match.l1] at H
      by_cases c22 : x10_2 < (l0.length : Int)
      ·rw [if_pos c22] at H
       have c22b0 : decide (x10_2 < (l0.length : Int)) = true := decide_eq_true c22
       clear c22
       by_cases c23 : 0 ≤ x1_5
       ·rw [if_pos c23] at H
        have c23b0 : decide (0 ≤ x1_5) = true := decide_eq_true c23
        clear c23
        by_cases c24 : x1_5 < (l0.length : Int)
        ·rw [if_pos c24] at H
         have c24b0 : decide (x1_5 < (l0.length : Int)) = true := decide_eq_true c24
         clear c24
         by_cases c25 : 0 ≤ x10_2
         ·rw [if_pos c25] at H
          have c25b0 : decide (0 ≤ x10_2) = true := decide_eq_true c25
          clear c25
          by_cases c26 : x10_2 < ((rd_L1 l0 x1_5).length : Int)
          ·rw [if_pos c26] at H
           have c26b0 : decide (x10_2 < ((rd_L1 l0 x1_5).length : Int)) = true := decide_eq_true c26
           clear c26
           by_cases c27 : (rd (rd_L1 l0 x1_5) x10_2) = 1
           ·rw [if_pos c27] at H
            have c27b0 : ((rd (rd_L1 l0 x1_5) x10_2) == 1) = true := beq_iff_eq.mpr c27
            have c27b1 : ((rd (rd_L1 l0 x1_5) x10_2) != 1) = false := bne_eq_false_iff_eq.mpr c27
            clear c27
            obtain ⟨ji28, hji28⟩ : ∃ j_ : Int, (IntKind.u64.wrap (x10_2)) = j_ := ⟨_, rfl⟩
            replace H : (if 0 ≤ (ji28) then (if (Go.bits .and .i64 (shr .i64 a2 (ji28)) 1) = 0 then ((spec_l10Match.f k2 l0 (wrap64 (x1_5 + 1)) (Go.bits .or .i64 a2 (shl .i64 1 (ji28))) (wrap64 (a3 + 1)) x4_2).bind fun t1081006 => (spec_l10Match.l1 k2 l0 x1_5 a2 a3 t1081006 (wrap64 (x10_2 + 1)))) else (spec_l10Match.l1 k2 l0 x1_5 a2 a3 x4_2 (wrap64 (x10_2 + 1)))) else (none)) = some r := by first | (rw [hji28] at H; exact H) | (simp only [hji28] at H ⊢; exact H)
            by_cases c29 : 0 ≤ (ji28)
            ·rw [if_pos c29] at H
             have c29b0 := eq_true c29
             have c29b1 : decide (0 ≤ (ji28)) = true := decide_eq_true c29
             clear c29
             obtain ⟨ji30, hji30⟩ : ∃ j_ : Int, (shr .i64 a2 (ji28)) = j_ := ⟨_, rfl⟩
             replace H : (if (Go.bits .and .i64 (ji30) 1) = 0 then ((spec_l10Match.f k2 l0 (wrap64 (x1_5 + 1)) (Go.bits .or .i64 a2 (shl .i64 1 (ji28))) (wrap64 (a3 + 1)) x4_2).bind fun t1081006 => (spec_l10Match.l1 k2 l0 x1_5 a2 a3 t1081006 (wrap64 (x10_2 + 1)))) else (spec_l10Match.l1 k2 l0 x1_5 a2 a3 x4_2 (wrap64 (x10_2 + 1)))) = some r := by first | (rw [hji30] at H; exact H) | (simp only [hji30] at H ⊢; exact H)
             have hji30_ : (a2 / 2 ^ min (ji28).toNat 64) = ji30 := hji30
             have hji30z : (ji28) ≤ 64 → (a2 / 2 ^ (ji28).toNat) = ji30 := shr_small hji30
             by_cases c31 : (Go.bits .and .i64 (ji30) 1) = 0
             ·rw [if_pos c31] at H
              have c31b0 : ((Go.bits .and .i64 (ji30) 1) == 0) = true := beq_iff_eq.mpr c31
              have c31b1 : ((Go.bits .and .i64 (ji30) 1) != 0) = false := bne_eq_false_iff_eq.mpr c31
              clear c31
              have c32b0 := eq_true (of_decide_eq_true (by first | (with_reducible assumption) | assumption) : 0 ≤ (ji28))
              obtain ⟨ji33, hji33⟩ : ∃ j_ : Int, (shl .i64 1 (ji28)) = j_ := ⟨_, rfl⟩
              replace H : ((spec_l10Match.f k2 l0 (wrap64 (x1_5 + 1)) (Go.bits .or .i64 a2 (ji33)) (wrap64 (a3 + 1)) x4_2).bind fun t1081006 => (spec_l10Match.l1 k2 l0 x1_5 a2 a3 t1081006 (wrap64 (x10_2 + 1)))) = some r := by first | (rw [hji33] at H; exact H) | (simp only [hji33] at H ⊢; exact H)
              have hji33_ : (IntKind.i64.wrap (1 * 2 ^ min (ji28).toNat 64)) = ji33 := hji33
              have hji33z : (ji28) ≤ 64 → (IntKind.i64.wrap (1 * 2 ^ (ji28).toNat)) = ji33 := shl_small hji33
              have hji33u : (IntKind.i64.wrap (2 ^ min (ji28).toNat 64)) = ji33 := by have h_ := hji33_; rw [Int.one_mul] at h_; exact h_
              have hji33v : (ji28) ≤ 64 → (IntKind.i64.wrap (2 ^ (ji28).toNat)) = ji33 := fun hle_ => by have h_ := hji33z hle_; rw [Int.one_mul] at h_; exact h_
              have hji33y : (wrap64 (1 * 2 ^ min (ji28).toNat 64)) = ji33 := (i64_w _).symm.trans hji33_
              have hji33x : (ji28) ≤ 64 → (wrap64 (1 * 2 ^ (ji28).toNat)) = ji33 := fun h_ => (i64_w _).symm.trans (hji33z h_)
              replace H := Option.bind_eq_some_iff.mp H
              obtain ⟨t1081006, A340, H⟩ := H
              replace H : (spec_l10Match.l1 k2 l0 x1_5 a2 a3 t1081006 (wrap64 (x10_2 + 1))) = some r := H
              have A34 := Aside0.mk A340
              clear A340
              have H' := Aside0.mk H
              clear H
              have p1081004 : 0 ≤ (x1_5 : Int) := of_decide_eq_true (by first | (with_reducible assumption) | assumption)
              have q1081004 : x1_5 < (l0.length : Int) := of_decide_eq_true (by first | (with_reducible assumption) | assumption)
              obtain ⟨ad1081004, A1081004_0, c1081004_0, e1081004, hx1081004_0, hl1081004_0, hi1081004_0⟩ := at_L1 (Kd.C_kept_now HR0.out HK.out) x1_5 p1081004 q1081004
              cases e1081004
              have HR1081004_0 := Aside0.mk hi1081004_0
              have HC1081004_0 := Aside0.mk hl1081004_0
              clear hi1081004_0 hl1081004_0
              replace p1081004 := eq_true p1081004
              replace q1081004 := eq_true q1081004
              have p1081005 : 0 ≤ (x10_2 : Int) := of_decide_eq_true (by first | (with_reducible assumption) | assumption)
              have q1081005 : x10_2 < ((rd_L1 l0 x1_5).length : Int) := of_decide_eq_true (by first | (with_reducible assumption) | assumption)
              obtain ⟨ad1081005, e1081005, hx1081005_0⟩ := Kd.at_int (by repeat (first | (with_reducible exact HR1081004_0.out) | (with_reducible refine Kd.C_alloc ?_ _) | (with_reducible refine Kd.C_drewN ?_ _) | (with_reducible refine Kd.C_drew ?_) | exact HR1081004_0.out)) x10_2 p1081005 q1081005
              cases e1081005
              replace p1081005 := eq_true p1081005
              replace q1081005 := eq_true q1081005
              go_wp2_with (first | ((with_reducible refine gate_callee (f := 108) rfl ?_); refine goesL_ (some 77) rfl rfl Try.func108 (by kernel_rfl) rfl #[.slice (some ad1081004) l0.length c0, .int .i64 (wrap64 (x1_5 + 1)), .int .i64 (Go.bits .or .i64 a2 (ji33)), .int .i64 (wrap64 (a3 + 1)), .slice Ao20 x4_2.length co20] rfl (by (try simp only [List.map_toArray, List.map_cons, List.map_nil]); first | done | (simp only [hji33]; rfl) | rfl | (simp only [List.length_drop, List.length_take]; rfl)) ?_; (with_reducible refine (ih k2 (by have := HJ5.out; have := HK2.out; omega) _ _ l0 (wrap64 (x1_5 + 1)) (Go.bits .or .i64 a2 (ji33)) (wrap64 (a3 + 1)) (fun k_ => some k_ = (.slice Ao20 x4_2.length co20 : Value).ownBlock) (.slice Ao20 x4_2.length co20) x4_2 t1081006 w0 _ ?side1 ?side2 ?side3 ?side4 A34.out).mono ?_); (case side1 => repeat (first | (with_reducible first | exact HB.out | apply below_alloc | apply pw_below_drewN | apply below_drew1) | exact HB.out)); (case side2 => exact Kd.C_kept_call HR0.out (by repeat (first | (with_reducible first | exact HK.out | apply Kept.alloc | apply Kept.drewN | apply Kept.drew) | exact HK.out)) (fun k_ hs_ => (fun e_ => (HO_4.out.1 k_ e_.symm)) hs_)); (case side3 => exact HC0.out); (case side4 => exact Kd.R_tight rfl HO_4.out); rintro e w35 ⟨rfl, hy0, hb, hkp⟩; refine ⟨_, rfl, ?_⟩; have n0_ := Aside0.mk (Kd.R_reok rfl hy0 (fun k_ e_ => HO_4.out.1 k_ e_)); have n1_ := Aside0.mk (Kept.then_ (S := (fun k_ => P4_ k_)) (by repeat (first | (with_reducible first | exact HK.out | apply Kept.alloc | apply Kept.drewN | apply Kept.drew) | exact HK.out)) hkp (fun k_ hs_ => (fun e_ => (HO_4.out.1 k_ e_.symm)) hs_)); have n2_ := Aside0.mk (hb); clear HO_4; clear HK; clear HB; have HO_4 := n0_; have HK := n1_; have HB := n2_; clear n0_ n1_ n2_; (try clear hb); (try clear hkp); (try clear hy0)))
              (try simp only [← hl4_2])
              go_roundg k2
              case measure => have := HJ5.out; have := HK2.out; omega
              case rel => exact ⟨(t1081006), (wrap64 (x10_2 + 1)), (by first | rfl | (simp; done) | (simp [*]; done)), H', ⟨by have := HJ5.out; have := HK2.out; omega⟩, ⟨by (try simp only [hl4_2]); (with_reducible repeat (first | apply Kd.R_alloc | apply Kd.R_drewN | apply Kd.R_drew)); exact HO_4.out⟩, ⟨by repeat (first | (with_reducible first | exact HK.out | apply Kept.alloc | apply Kept.drewN | apply Kept.drew) | exact HK.out)⟩, ⟨by repeat (first | (with_reducible first | exact HB.out | apply below_alloc | apply pw_below_drewN | apply below_drew1) | exact HB.out)⟩⟩
             ·rw [if_neg c31] at H
              have c31b0 : ((Go.bits .and .i64 (ji30) 1) == 0) = false := beq_eq_false_iff_ne.mpr c31
              have c31b1 : ((Go.bits .and .i64 (ji30) 1) != 0) = true := bne_iff_ne.mpr c31
              have H' := Aside0.mk H
              clear H
              have p1081004 : 0 ≤ (x1_5 : Int) := of_decide_eq_true (by first | (with_reducible assumption) | assumption)
              have q1081004 : x1_5 < (l0.length : Int) := of_decide_eq_true (by first | (with_reducible assumption) | assumption)
              obtain ⟨ad1081004, A1081004_0, c1081004_0, e1081004, hx1081004_0, hl1081004_0, hi1081004_0⟩ := at_L1 (Kd.C_kept_now HR0.out HK.out) x1_5 p1081004 q1081004
              cases e1081004
              have HR1081004_0 := Aside0.mk hi1081004_0
              have HC1081004_0 := Aside0.mk hl1081004_0
              clear hi1081004_0 hl1081004_0
              replace p1081004 := eq_true p1081004
              replace q1081004 := eq_true q1081004
              have p1081005 : 0 ≤ (x10_2 : Int) := of_decide_eq_true (by first | (with_reducible assumption) | assumption)
              have q1081005 : x10_2 < ((rd_L1 l0 x1_5).length : Int) := of_decide_eq_true (by first | (with_reducible assumption) | assumption)
              obtain ⟨ad1081005, e1081005, hx1081005_0⟩ := Kd.at_int (by repeat (first | (with_reducible exact HR1081004_0.out) | (with_reducible refine Kd.C_alloc ?_ _) | (with_reducible refine Kd.C_drewN ?_ _) | (with_reducible refine Kd.C_drew ?_) | exact HR1081004_0.out)) x10_2 p1081005 q1081005
              cases e1081005
              replace p1081005 := eq_true p1081005
              replace q1081005 := eq_true q1081005
              go_wp2
              (try simp only [← hl4_2])
              go_roundg k2
              case measure => have := HJ5.out; have := HK2.out; omega
              case rel => exact ⟨(x4_2), (wrap64 (x10_2 + 1)), (by first | rfl | (simp; done) | (simp [*]; done)), H', ⟨by have := HJ5.out; have := HK2.out; omega⟩, ⟨by (try simp only [hl4_2]); (with_reducible repeat (first | apply Kd.R_alloc | apply Kd.R_drewN | apply Kd.R_drew)); exact HO_4.out⟩, ⟨by repeat (first | (with_reducible first | exact HK.out | apply Kept.alloc | apply Kept.drewN | apply Kept.drew) | exact HK.out)⟩, ⟨by repeat (first | (with_reducible first | exact HB.out | apply below_alloc | apply pw_below_drewN | apply below_drew1) | exact HB.out)⟩⟩
            ·rw [if_neg c29] at H
             exact absurd H (by simp)
           ·rw [if_neg c27] at H
            have c27b0 : ((rd (rd_L1 l0 x1_5) x10_2) == 1) = false := beq_eq_false_iff_ne.mpr c27
            have c27b1 : ((rd (rd_L1 l0 x1_5) x10_2) != 1) = true := bne_iff_ne.mpr c27
            have H' := Aside0.mk H
            clear H
            have p1081004 : 0 ≤ (x1_5 : Int) := of_decide_eq_true (by first | (with_reducible assumption) | assumption)
            have q1081004 : x1_5 < (l0.length : Int) := of_decide_eq_true (by first | (with_reducible assumption) | assumption)
            obtain ⟨ad1081004, A1081004_0, c1081004_0, e1081004, hx1081004_0, hl1081004_0, hi1081004_0⟩ := at_L1 (Kd.C_kept_now HR0.out HK.out) x1_5 p1081004 q1081004
            cases e1081004
            have HR1081004_0 := Aside0.mk hi1081004_0
            have HC1081004_0 := Aside0.mk hl1081004_0
            clear hi1081004_0 hl1081004_0
            replace p1081004 := eq_true p1081004
            replace q1081004 := eq_true q1081004
            have p1081005 : 0 ≤ (x10_2 : Int) := of_decide_eq_true (by first | (with_reducible assumption) | assumption)
            have q1081005 : x10_2 < ((rd_L1 l0 x1_5).length : Int) := of_decide_eq_true (by first | (with_reducible assumption) | assumption)
            obtain ⟨ad1081005, e1081005, hx1081005_0⟩ := Kd.at_int (by repeat (first | (with_reducible exact HR1081004_0.out) | (with_reducible refine Kd.C_alloc ?_ _) | (with_reducible refine Kd.C_drewN ?_ _) | (with_reducible refine Kd.C_drew ?_) | exact HR1081004_0.out)) x10_2 p1081005 q1081005
            cases e1081005
            replace p1081005 := eq_true p1081005
            replace q1081005 := eq_true q1081005
            go_wp2
            (try simp only [← hl4_2])
            go_roundg k2
            case measure => have := HJ5.out; have := HK2.out; omega
            case rel => exact ⟨(x4_2), (wrap64 (x10_2 + 1)), (by first | rfl | (simp; done) | (simp [*]; done)), H', ⟨by have := HJ5.out; have := HK2.out; omega⟩, ⟨by (try simp only [hl4_2]); (with_reducible repeat (first | apply Kd.R_alloc | apply Kd.R_drewN | apply Kd.R_drew)); exact HO_4.out⟩, ⟨by repeat (first | (with_reducible first | exact HK.out | apply Kept.alloc | apply Kept.drewN | apply Kept.drew) | exact HK.out)⟩, ⟨by repeat (first | (with_reducible first | exact HB.out | apply below_alloc | apply pw_below_drewN | apply below_drew1) | exact HB.out)⟩⟩
          ·rw [if_neg c26] at H
           exact absurd H (by simp)
         ·rw [if_neg c25] at H
          exact absurd H (by simp)
        ·rw [if_neg c24] at H
         exact absurd H (by simp)
       ·rw [if_neg c23] at H
        exact absurd H (by simp)
      ·rw [if_neg c22] at H
       have c22b0 : decide (x10_2 < (l0.length : Int)) = false := decide_eq_false c22
       clear c22
       obtain rfl := Option.some.inj H
       go_wp2
       first | go_end0 | ((try simp only [Exit.inBlock, Exit.then]); refine bodyPost_ret (results_none rfl _ _ _) rfl ?_)
       exact ⟨by first | rfl | (simp [errW_none, errW_some] <;> rfl) | (simp [*, errW_none, errW_some] <;> rfl), (by first | exact (by (with_reducible repeat (first | apply Kd.R_alloc | apply Kd.R_drewN | apply Kd.R_drew)); exact HO_4.out) | (simp only [hl4_2]; exact (by (with_reducible repeat (first | apply Kd.R_alloc | apply Kd.R_drewN | apply Kd.R_drew)); exact HO_4.out))), by repeat (first | (with_reducible first | exact HB.out | apply below_alloc | apply pw_below_drewN | apply below_drew1) | exact HB.out), by repeat (first | (with_reducible first | exact HK.out | apply Kept.alloc | apply Kept.drewN | apply Kept.drew) | exact HK.out)⟩

end Go.Proofs.Ytfijnlbkflmkbaa.F
