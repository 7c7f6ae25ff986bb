/- What impl_PolygonNumbers answers, and that the Go text comes to it: for every world in which the arguments read as told. -/
import Derived.Test.YtfijnlbkflmkbaaFgA
import Derived.Test.YtfijnlbkflmkbaaPureOwn
namespace Go.Proofs.Ytfijnlbkflmkbaa.F
open Go.RowKit Go.Proofs.YtfijnlbkflmkbaaW.PrintWords Go.Proofs.YtfijnlbkflmkbaaW.PrintLast Go.Proofs.YtfijnlbkflmkbaaW.PrintMore
attribute [local go_sem] max2_int min2_int max_two min_two max_three min_three max_four min_four   -- for this text's walks alone
set_option linter.unusedVariables false
set_option linter.unusedSimpArgs false

/-! ### impl_PolygonNumbers: function 27 -/
mutual
def impl_PolygonNumbers.l0 : Nat → Int → List (List Int) → Int → Option (List Int × Int)
 | 0, _, _, _ => none
 | k + 1, x0, x4, x5 => if x5 ≤ x0 then (if 0 ≤ (wrap64 ((wrap64 (Int.tdiv x5 2)) + 1)) then (if (wrap64 ((wrap64 (Int.tdiv x5 2)) + 1) : Int).toNat ≤ 35184372088832 then ((some (List.replicate (wrap64 ((wrap64 (Int.tdiv x5 2)) + 1) : Int).toNat 0 : List Int)).bind fun y271009 => (impl_PolygonNumbers.l1 k x0 x4 x5 y271009 (y271009.length : Int) 0)) else (none)) else (none)) else (if 0 ≤ x0 then (if x0 < (x4.length : Int) then (some (rd_L1 x4 x0, 0)) else (none)) else (none))
def impl_PolygonNumbers.l1 : Nat → Int → List (List Int) → Int → List Int → Int → Int → Option (List Int × Int)
 | 0, _, _, _, _, _, _ => none
 | k + 1, x0, x4, x5, x6, x24, x25 => if x25 < x24 then (if 0 ≤ (wrap64 (x5 - 1)) then (if (wrap64 (x5 - 1)) < (x4.length : Int) then (if x25 < ((rd_L1 x4 (wrap64 (x5 - 1))).length : Int) then (if 0 ≤ x25 then (if x5 ≥ 2 then (if x25 ≥ 1 then (if 0 ≤ (wrap64 (x5 - 2)) then (if (wrap64 (x5 - 2)) < (x4.length : Int) then (if (wrap64 (x25 - 1)) < ((rd_L1 x4 (wrap64 (x5 - 2))).length : Int) then (if 0 ≤ (wrap64 (x25 - 1)) then (if (wrap64 (x5 + 1)) = 0 then (none) else (if x25 < (x6.length : Int) then (impl_PolygonNumbers.l1 k x0 x4 x5 (x6.set (x25 : Int).toNat (wrap64 (Int.tdiv (wrap64 ((wrap64 (0 + (wrap64 ((wrap64 (2 * (wrap64 ((wrap64 (2 * x5)) - 1)))) * (rd (rd_L1 x4 (wrap64 (x5 - 1))) x25))))) + (wrap64 ((wrap64 ((wrap64 ((wrap64 ((wrap64 (2 * x5)) - 1)) * (wrap64 (x5 - 1)))) * (wrap64 ((wrap64 (2 * x5)) - 3)))) * (rd (rd_L1 x4 (wrap64 (x5 - 2))) (wrap64 (x25 - 1))))))) (wrap64 (x5 + 1))))) x24 (wrap64 (x25 + 1))) else (none))) else (none)) else (if (wrap64 (x5 + 1)) = 0 then (none) else (if x25 < (x6.length : Int) then (impl_PolygonNumbers.l1 k x0 x4 x5 (x6.set (x25 : Int).toNat (wrap64 (Int.tdiv (wrap64 (0 + (wrap64 ((wrap64 (2 * (wrap64 ((wrap64 (2 * x5)) - 1)))) * (rd (rd_L1 x4 (wrap64 (x5 - 1))) x25))))) (wrap64 (x5 + 1))))) x24 (wrap64 (x25 + 1))) else (none)))) else (none)) else (none)) else (if (wrap64 (x5 + 1)) = 0 then (none) else (if x25 < (x6.length : Int) then (impl_PolygonNumbers.l1 k x0 x4 x5 (x6.set (x25 : Int).toNat (wrap64 (Int.tdiv (wrap64 (0 + (wrap64 ((wrap64 (2 * (wrap64 ((wrap64 (2 * x5)) - 1)))) * (rd (rd_L1 x4 (wrap64 (x5 - 1))) x25))))) (wrap64 (x5 + 1))))) x24 (wrap64 (x25 + 1))) else (none)))) else (if (wrap64 (x5 + 1)) = 0 then (none) else (if x25 < (x6.length : Int) then (impl_PolygonNumbers.l1 k x0 x4 x5 (x6.set (x25 : Int).toNat (wrap64 (Int.tdiv (wrap64 (0 + (wrap64 ((wrap64 (2 * (wrap64 ((wrap64 (2 * x5)) - 1)))) * (rd (rd_L1 x4 (wrap64 (x5 - 1))) x25))))) (wrap64 (x5 + 1))))) x24 (wrap64 (x25 + 1))) else (none)))) else (none)) else (if x5 ≥ 2 then (if x25 ≥ 1 then (if 0 ≤ (wrap64 (x5 - 2)) then (if (wrap64 (x5 - 2)) < (x4.length : Int) then (if (wrap64 (x25 - 1)) < ((rd_L1 x4 (wrap64 (x5 - 2))).length : Int) then (if 0 ≤ (wrap64 (x25 - 1)) then (if (wrap64 (x5 + 1)) = 0 then (none) else (if 0 ≤ x25 then (if x25 < (x6.length : Int) then (impl_PolygonNumbers.l1 k x0 x4 x5 (x6.set (x25 : Int).toNat (wrap64 (Int.tdiv (wrap64 (0 + (wrap64 ((wrap64 ((wrap64 ((wrap64 ((wrap64 (2 * x5)) - 1)) * (wrap64 (x5 - 1)))) * (wrap64 ((wrap64 (2 * x5)) - 3)))) * (rd (rd_L1 x4 (wrap64 (x5 - 2))) (wrap64 (x25 - 1))))))) (wrap64 (x5 + 1))))) x24 (wrap64 (x25 + 1))) else (none)) else (none))) else (none)) else (if (wrap64 (x5 + 1)) = 0 then (none) else (if 0 ≤ x25 then (if x25 < (x6.length : Int) then (impl_PolygonNumbers.l1 k x0 x4 x5 (x6.set (x25 : Int).toNat (0 : Int)) x24 (wrap64 (x25 + 1))) else (none)) else (none)))) else (none)) else (none)) else (if (wrap64 (x5 + 1)) = 0 then (none) else (if 0 ≤ x25 then (if x25 < (x6.length : Int) then (impl_PolygonNumbers.l1 k x0 x4 x5 (x6.set (x25 : Int).toNat (0 : Int)) x24 (wrap64 (x25 + 1))) else (none)) else (none)))) else (if (wrap64 (x5 + 1)) = 0 then (none) else (if 0 ≤ x25 then (if x25 < (x6.length : Int) then (impl_PolygonNumbers.l1 k x0 x4 x5 (x6.set (x25 : Int).toNat (0 : Int)) x24 (wrap64 (x25 + 1))) else (none)) else (none))))) else (none)) else (none)) else (if x4.length < 5864062014805 then (impl_PolygonNumbers.l0 k x0 (x4 ++ [x6]) (wrap64 (x5 + 1))) else (none))
end
def impl_PolygonNumbers.f (k : Nat) (a0 : Int) : Option (List Int × Int) := (impl_in.f a0 0 12).bind fun t271001 => (if t271001 = true then (impl_PolygonNumbers.l0 k a0 (([(([1] : List Int))] : List (List Int))) 1) else (some (([] : List Int), 2)))
theorem impl_PolygonNumbers.mono_l : ∀ k, (∀ y0 y1 y2, LeO (impl_PolygonNumbers.l0 k y0 y1 y2) (impl_PolygonNumbers.l0 (k + 1) y0 y1 y2)) ∧ (∀ y0 y1 y2 y3 y4 y5, LeO (impl_PolygonNumbers.l1 k y0 y1 y2 y3 y4 y5) (impl_PolygonNumbers.l1 (k + 1) y0 y1 y2 y3 y4 y5))
 | 0 => ⟨fun _ _ _ r h => by simp [impl_PolygonNumbers.l0] at h, fun _ _ _ _ _ _ r h => by simp [impl_PolygonNumbers.l1] at h⟩
 | k + 1 => by
  obtain ⟨ih0, ih1⟩ := impl_PolygonNumbers.mono_l k
  refine ⟨?_, ?_⟩
  ·intro y0 y1 y2
   unfold impl_PolygonNumbers.l0
   repeat' first
   | (with_reducible exact ih0 _ _ _)
   | (with_reducible exact ih1 _ _ _ _ _ _)
   | (with_reducible exact LeO.refl _)
   | (with_reducible exact LeO.none _)
   | (with_reducible refine LeO.ite ?_ ?_)
   | (with_reducible refine LeO.bind ?_ (fun _ => ?_))
   | exact ih0 _ _ _
   | exact ih1 _ _ _ _ _ _
   | exact LeO.none _
   | refine LeO.ite ?_ ?_
   | refine LeO.bind ?_ (fun _ => ?_)
  ·intro y0 y1 y2 y3 y4 y5
   unfold impl_PolygonNumbers.l1
   repeat' first
   | (with_reducible exact ih0 _ _ _)
   | (with_reducible exact ih1 _ _ _ _ _ _)
   | (with_reducible exact LeO.refl _)
   | (with_reducible exact LeO.none _)
   | (with_reducible refine LeO.ite ?_ ?_)
   | (with_reducible refine LeO.bind ?_ (fun _ => ?_))
   | exact ih0 _ _ _
   | exact ih1 _ _ _ _ _ _
   | exact LeO.none _
   | refine LeO.ite ?_ ?_
   | refine LeO.bind ?_ (fun _ => ?_)
theorem impl_PolygonNumbers.mono : ∀ a0 k, LeO (impl_PolygonNumbers.f k a0) (impl_PolygonNumbers.f (k + 1) a0) := by
 intro a0 k
 obtain ⟨ih0, ih1⟩ := impl_PolygonNumbers.mono_l k
 unfold impl_PolygonNumbers.f
 repeat' first
   | (with_reducible exact ih0 _ _ _)
   | (with_reducible exact ih1 _ _ _ _ _ _)
   | (with_reducible exact LeO.refl _)
   | (with_reducible exact LeO.none _)
   | (with_reducible refine LeO.ite ?_ ?_)
   | (with_reducible refine LeO.bind ?_ (fun _ => ?_))
   | exact ih0 _ _ _
   | exact ih1 _ _ _ _ _ _
   | exact LeO.none _
   | refine LeO.ite ?_ ?_
   | refine LeO.bind ?_ (fun _ => ?_)
set_option maxHeartbeats 8000000 in
set_option maxRecDepth 100000 in
theorem impl_PolygonNumbers.calls (k : Nat) (a0 : Int) (r1 : List Int) (r2 : Int) (w : World) (h : impl_PolygonNumbers.f k a0 = some (r1, r2)) :
  Calls Try.prog 27 #[.int .i64 a0] w fun e w' => ∃ v0_ : Value, e = .returned (.tuple #[v0_, .int .i64 r2]) ∧ Kd.R (Kd.int .i64) 2 w' w.heap.size (fun _ => True) v0_ r1 ∧ Below w.heap.size w w' := by
 have HB := Aside0.mk (Below.refl w.heap.size w)
 have H : ((impl_in.f a0 0 12).bind fun t271001 => (if t271001 = true then (impl_PolygonNumbers.l0 k a0 (([(([1] : List Int))] : List (List Int))) 1) else (some (([] : List Int), 2)))) = some (r1, r2) := h
 clear h
 replace H := Option.bind_eq_some_iff.mp H
 obtain ⟨t271001, A20, H⟩ := H
 replace H : (if t271001 = true then (impl_PolygonNumbers.l0 k a0 (([(([1] : List Int))] : List (List Int))) 1) else (some (([] : List Int), 2))) = some (r1, r2) := H
 have A2 := Aside0.mk A20
 clear A20
 by_cases c3 : t271001 = true
 ·subst c3
  have H1 : (impl_PolygonNumbers.l0 k a0 (([(([1] : List Int))] : List (List Int))) 1) = some (r1, r2) := by rw [if_pos rfl] at H; exact H
  clear H
  have H := H1
  clear H1
  obtain ⟨y271002, hy271002⟩ : ∃ y_ : List Int, y_ = (([1] : List Int)) := ⟨_, rfl⟩
  replace H : (impl_PolygonNumbers.l0 k a0 (([y271002] : List (List Int))) 1) = some (r1, r2) := by first | (rw [hy271002]; with_reducible exact H) | (have H2_ := (Option.bind_some _ _).symm.trans H; rw [hy271002]; with_reducible exact H2_) | (have H2_ := (Option.bind_some _ _).symm.trans H; with_reducible exact H2_) | with_reducible exact H | (rw [hy271002]; exact H) | exact H
  have Ny271002 := Aside0.mk hy271002
  clear hy271002
  obtain ⟨y271005, hy271005⟩ : ∃ y_ : List (List Int), y_ = (([y271002] : List (List Int))) := ⟨_, rfl⟩
  replace H : (impl_PolygonNumbers.l0 k a0 y271005 1) = some (r1, r2) := by first | (rw [hy271005]; with_reducible exact H) | (have H2_ := (Option.bind_some _ _).symm.trans H; rw [hy271005]; with_reducible exact H2_) | (have H2_ := (Option.bind_some _ _).symm.trans H; with_reducible exact H2_) | with_reducible exact H | (rw [hy271005]; exact H) | exact H
  have Ny271005 := Aside0.mk hy271005
  clear hy271005
  have H' := Aside0.mk H
  clear H
  go_enter Try.func27, Try.ntmps27
  go_wp2_with (first | ((with_reducible refine gate_callee (f := 81) rfl ?_); refine goesL_ (some 10) rfl rfl Try.func81 (by kernel_rfl) rfl #[.int .i64 a0, .int .i64 0, .int .i64 12] rfl (by (try simp only [List.map_toArray, List.map_cons, List.map_nil]); first | done | rfl | (simp only [List.length_drop, List.length_take]; rfl)) ?_; (with_reducible refine (impl_in.calls a0 0 12 true _ A2.out).mono ?_); rintro e w' ⟨rfl, ⟨nd, rfl⟩⟩; refine ⟨_, rfl, ?_⟩) | ((with_reducible refine gate_dst (N := 12) rfl ?_); (try (refine gate_guard (by rfl) ?_; dsimp only)); refine Kd.R_lit (Kd.int .i64) _ 2 ?hg (N := 12) ?hd (xs := ([1] : List Int)) (inner := [.int .i64 1]) (ok := fun _ => True) (okp := fun _ => True) ?hr ?hp (fun _ hk => hk) trivial (Below.refl _ _) (Nat.le_refl _) (by simp) ?_; (case hd => rfl); (case hg => rfl); (case hr => first | (go_simp; done) | (go_simp; rfl)); (case hp => exact (Reps.one (show Kd.M (Kd.int .i64) _ _ _ 1 [.int .i64 1] from rfl) (Reps.none _ _))); intro v271003 w4 ho5 hb hg_ hnew_; clear hg_ hnew_; (first | rw [← Ny271002.out] at ho5 | (simp only [Int.reduceToNat] at ho5; rw [← Ny271002.out] at ho5)); have n0_ := Aside0.mk (Kd.R_lower (Kd.R_newM (M := fun k_ => (w.heap.size ≤ k_)) ho5 (below_size (by repeat (first | (with_reducible first | exact HB.out | apply below_alloc | apply pw_below_drewN | apply below_drew1) | exact HB.out))) (fun k_ h_ => h_)) (below_size (by repeat (first | (with_reducible first | exact HB.out | apply below_alloc | apply pw_below_drewN | apply below_drew1) | exact HB.out)))); have n1_ := Aside0.mk (below_step (by repeat (first | (with_reducible first | exact HB.out | apply below_alloc | apply pw_below_drewN | apply below_drew1) | exact HB.out)) hb); clear HB; have HO271004 := n0_; have HB := n1_; clear n0_ n1_; clear hb ho5; obtain ⟨Ao6, co6, eo6⟩ := Kd.R_slice HO271004.out; subst eo6) | ((with_reducible refine gate_dst (N := 13) rfl ?_); (try (refine gate_guard (by rfl) ?_; dsimp only)); refine Kd.N_lit (Mem.ownk 2 w.heap.size) _ 22 ?hg (N' := 13) ?hd (xs := ([y271002] : List (List Int))) (inner := [.slice Ao6 y271002.length co6]) (ok := (fun k_ => (w.heap.size ≤ k_))) (okp := (fun k_ => (w.heap.size ≤ k_))) ?hr ?hp (fun _ hk => hk) ((show ∀ k_, w4.heap.size ≤ k_ → (fun k_ => (w.heap.size ≤ k_)) k_ from fun k_ hk => (Nat.le_trans (below_size (by repeat (first | (with_reducible first | exact HB.out | apply below_alloc | apply pw_below_drewN | apply below_drew1) | exact HB.out))) hk)) _ (Nat.le_refl _)) (Below.refl _ _) (Nat.le_refl _) (by simp) ?_; (case hd => rfl); (case hg => rfl); (case hr => first | (go_simp; done) | (go_simp; rfl)); (case hp => exact (Reps.one (show Kd.FK (Mem.ownk 2 w.heap.size) _ _ y271002 [.slice Ao6 y271002.length co6] from (Mem.FK_own_mk (Kd.R_reads' (Kd.R_mono (ok' := (fun k_ => (w.heap.size ≤ k_))) (HO271004.out) (fun k_ hk => hk.1))).2.1 (Mem.R_keep (Kd.R_mono (ok' := (fun k_ => (w.heap.size ≤ k_))) (HO271004.out) (fun k_ hk => hk.1))))) (Reps.none _ _))); intro v271006 w7 ho8 hb hg_ hnew_; clear hg_ hnew_; (first | rw [← Ny271005.out] at ho8 | (simp only [Int.reduceToNat] at ho8; rw [← Ny271005.out] at ho8)); have n0_ := Aside0.mk (Kd.N_lower ho8 (below_size (by repeat (first | (with_reducible first | exact HB.out | apply below_alloc | apply pw_below_drewN | apply below_drew1) | exact HB.out)))); have n1_ := Aside0.mk (below_step (by repeat (first | (with_reducible first | exact HB.out | apply below_alloc | apply pw_below_drewN | apply below_drew1) | exact HB.out)) hb); clear HB; clear HO271004; have HO271007 := n0_; have HB := n1_; clear n0_ n1_; clear hb ho8))
  go_loopg [4, 5] k (fun kq v4 v5 w' => ∃ (x4_1 : List (List Int)) (x5_1 : Int), v5 = .int .i64 x5_1 ∧ Aside0 (impl_PolygonNumbers.l0 kq a0 x4_1 x5_1 = some (r1, r2)) ∧ Aside0 (kq ≤ k) ∧ Aside0 (Kd.N (Mem.ownk 2 w.heap.size) 22 w' w.heap.size (fun k_ => (w.heap.size ≤ k_)) v4 x4_1) ∧ Aside0 (Below w.heap.size w w'))
  case atStart => exact ⟨(y271005), (1), (by first | rfl | (simp; done) | (simp [*]; done)), H', ⟨Nat.le_refl _⟩, ⟨by (with_reducible repeat (first | apply Kd.N_alloc | apply Kd.N_drewN | apply Kd.N_drew)); exact HO271007.out⟩, ⟨by repeat (first | (with_reducible first | exact HB.out | apply below_alloc | apply pw_below_drewN | apply below_drew1) | exact HB.out)⟩⟩
  case round =>
   clear H'
   try clear c2
   try clear p2
   try clear c3
   try clear c8
   obtain ⟨x4_1, x5_1, rfl, HA, HK1, HO_4, HB⟩ := hrel
   cases gk with
   | zero => exact absurd HA.out (by simp [impl_PolygonNumbers.l0])
   | succ k1 =>
    have H := HA.out
    clear HA
    simp only [impl_PolygonNumbers.l0] at H
    by_cases c9 : x5_1 ≤ a0
    ·rw [if_pos c9] at H
     have c9b0 : decide (x5_1 ≤ a0) = true := decide_eq_true c9
     clear c9
     obtain ⟨ji10, hji10⟩ : ∃ j_ : Int, (wrap64 ((wrap64 (Int.tdiv x5_1 2)) + 1)) = j_ := ⟨_, rfl⟩
     replace H : (if 0 ≤ (ji10) then (if (ji10 : Int).toNat ≤ 35184372088832 then ((some (List.replicate (ji10 : Int).toNat 0 : List Int)).bind fun y271009 => (impl_PolygonNumbers.l1 k1 a0 x4_1 x5_1 y271009 (y271009.length : Int) 0)) else (none)) else (none)) = some (r1, r2) := by first | (rw [hji10] at H; exact H) | (simp only [hji10] at H ⊢; exact H)
     have hji10w : (IntKind.i64.wrap ((wrap64 (Int.tdiv x5_1 2)) + 1)) = ji10 := (i64_w _).trans hji10
     by_cases c11 : 0 ≤ (ji10)
     ·rw [if_pos c11] at H
      have c11b0 := eq_true c11
      have c11b1 : decide (0 ≤ (ji10)) = true := decide_eq_true c11
      clear c11
      by_cases c12 : (ji10 : Int).toNat ≤ 35184372088832
      ·rw [if_pos c12] at H
       have c12b0 := eq_true c12
       have c12b1 : decide ((ji10 : Int).toNat ≤ 35184372088832) = true := decide_eq_true c12
       clear c12
       obtain ⟨y271009, hy271009⟩ : ∃ y_ : List Int, y_ = (List.replicate (ji10 : Int).toNat 0) := ⟨_, rfl⟩
       replace H : (impl_PolygonNumbers.l1 k1 a0 x4_1 x5_1 y271009 (y271009.length : Int) 0) = some (r1, r2) := by first | (rw [hy271009]; with_reducible exact H) | (have H2_ := (Option.bind_some _ _).symm.trans H; rw [hy271009]; with_reducible exact H2_) | (have H2_ := (Option.bind_some _ _).symm.trans H; with_reducible exact H2_) | with_reducible exact H | (rw [hy271009]; exact H) | exact H
       have Ny271009 := Aside0.mk hy271009
       clear hy271009
       have H' := Aside0.mk H
       clear H
       go_wp2_with (first | ((with_reducible refine gate_dst (N := 22) rfl ?_); (try (refine gate_guard (by rfl) ?_; dsimp only)); refine Kd.R_make (Kd.int .i64) _ 2 rfl (N := 22) rfl 22 _ _ rfl ji10 rfl rfl Try.underlying22 (.int .i64 0) 8 info2 rfl (by decide) (by omega) 0 (ok := fun _ => True) (okp := fun _ => True) rfl (fun _ hk => hk) trivial (of_decide_eq_true (by first | (with_reducible assumption) | assumption)) (Nat.le_trans (Nat.mul_le_mul_right _ (of_decide_eq_true (by first | (with_reducible assumption) | assumption) : ji10.toNat ≤ 35184372088832)) (by omega)) (Below.refl _ _) (Nat.le_refl _) ?_; intro v271010 w13 ho14 hb hg_ hnew_; clear hg_ hnew_; (first | rw [← Ny271009.out] at ho14 | (simp only [Int.reduceToNat] at ho14; rw [← Ny271009.out] at ho14)); have n0_ := Aside0.mk (Kd.N_elder' (by (with_reducible repeat (first | apply Kd.N_alloc | apply Kd.N_drewN | apply Kd.N_drew)); exact HO_4.out) (Kd.R_base ho14) hb); have n1_ := Aside0.mk (Kd.R_lower (Kd.R_newM (M := fun k_ => (w.heap.size ≤ k_)) ho14 (below_size (by repeat (first | (with_reducible first | exact HB.out | apply below_alloc | apply pw_below_drewN | apply below_drew1) | exact HB.out))) (fun k_ h_ => h_)) (below_size (by repeat (first | (with_reducible first | exact HB.out | apply below_alloc | apply pw_below_drewN | apply below_drew1) | exact HB.out)))); have n2_ := Aside0.mk (below_step (by repeat (first | (with_reducible first | exact HB.out | apply below_alloc | apply pw_below_drewN | apply below_drew1) | exact HB.out)) hb); clear HO_4; clear HB; have HO_4 := n0_; have HO271011 := n1_; have HB := n2_; clear n0_ n1_ n2_; clear hb ho14; obtain ⟨Ao15, co15, eo15⟩ := Kd.R_slice HO271011.out; subst eo15))
       go_loopg [25] k1 (fun kq v25 w' => ∃ (x6_2 : List Int) (x25_2 : Int), v25 = .int .i64 x25_2 ∧ Aside0 (impl_PolygonNumbers.l1 kq a0 x4_1 x5_1 x6_2 (y271009.length : Int) x25_2 = some (r1, r2)) ∧ Aside0 (kq ≤ k1) ∧ Aside0 (Kd.N (Mem.ownk 2 w.heap.size) 22 w' w.heap.size (fun k_ => (w.heap.size ≤ k_) ∧ some k_ ≠ ((.slice Ao15 y271009.length co15) : Value).ownBlock) u4 x4_1) ∧ Aside0 (Kd.R (Kd.int .i64) 2 w' w.heap.size (fun k_ => (w.heap.size ≤ k_)) (.slice Ao15 y271009.length co15) x6_2) ∧ Aside0 (Below w.heap.size w w'))
       case atStart => exact ⟨(y271009), (0), (by first | rfl | (simp; done) | (simp [*]; done)), H', ⟨Nat.le_refl _⟩, ⟨by (with_reducible repeat (first | apply Kd.N_alloc | apply Kd.N_drewN | apply Kd.N_drew)); exact HO_4.out⟩, ⟨by (with_reducible repeat (first | apply Kd.R_alloc | apply Kd.R_drewN | apply Kd.R_drew)); exact Kd.R_mono HO271011.out (fun _ hk => hk.1)⟩, ⟨by repeat (first | (with_reducible first | exact HB.out | apply below_alloc | apply pw_below_drewN | apply below_drew1) | exact HB.out)⟩⟩
       case round =>
        clear H'
        try clear c1
        try clear c2
        try clear p2
        try clear c3
        try clear p6
        try clear c8
        try clear c9
        try clear c9b0
        try clear c11
        try clear c11b0
        try clear c11b1
        try clear c12
        try clear c12b0
        try clear c12b1
        try clear p2
        obtain ⟨x6_2, x25_2, rfl, HA, HK2, HO_4, HO_6, HB⟩ := hrel
        have hl6_2 := (Kd.R_reads' HO_6.out).1
        rw [hl6_2] at HO_6
        (try simp only [hl6_2])
        (try simp only [hl6_2] at HO_4)
        cases gk with
        | zero => exact absurd HA.out (by simp [impl_PolygonNumbers.l1])
        | succ k2 =>
         have H := HA.out
         clear HA
         simp only [impl_PolygonNumbers.l1] at H
         by_cases c16 : x25_2 < (y271009.length : Int)
         ·rw [if_pos c16] at H
          have c16b0 : decide (x25_2 < (y271009.length : Int)) = true := decide_eq_true c16
          clear c16
          obtain ⟨ji17, hji17⟩ : ∃ j_ : Int, (wrap64 (x5_1 - 1)) = j_ := ⟨_, rfl⟩
          replace H : (if 0 ≤ (ji17) then (if (ji17) < (x4_1.length : Int) then (if x25_2 < ((rd_L1 x4_1 (ji17)).length : Int) then (if 0 ≤ x25_2 then (if x5_1 ≥ 2 then (if x25_2 ≥ 1 then (if 0 ≤ (wrap64 (x5_1 - 2)) then (if (wrap64 (x5_1 - 2)) < (x4_1.length : Int) then (if (wrap64 (x25_2 - 1)) < ((rd_L1 x4_1 (wrap64 (x5_1 - 2))).length : Int) then (if 0 ≤ (wrap64 (x25_2 - 1)) then (if (wrap64 (x5_1 + 1)) = 0 then (none) else (if x25_2 < (x6_2.length : Int) then (impl_PolygonNumbers.l1 k2 a0 x4_1 x5_1 (x6_2.set (x25_2 : Int).toNat (wrap64 (Int.tdiv (wrap64 ((wrap64 (0 + (wrap64 ((wrap64 (2 * (wrap64 ((wrap64 (2 * x5_1)) - 1)))) * (rd (rd_L1 x4_1 (ji17)) x25_2))))) + (wrap64 ((wrap64 ((wrap64 ((wrap64 ((wrap64 (2 * x5_1)) - 1)) * (ji17))) * (wrap64 ((wrap64 (2 * x5_1)) - 3)))) * (rd (rd_L1 x4_1 (wrap64 (x5_1 - 2))) (wrap64 (x25_2 - 1))))))) (wrap64 (x5_1 + 1))))) (y271009.length : Int) (wrap64 (x25_2 + 1))) else (none))) else (none)) else (if (wrap64 (x5_1 + 1)) = 0 then (none) else (if x25_2 < (x6_2.length : Int) then (impl_PolygonNumbers.l1 k2 a0 x4_1 x5_1 (x6_2.set (x25_2 : Int).toNat (wrap64 (Int.tdiv (wrap64 (0 + (wrap64 ((wrap64 (2 * (wrap64 ((wrap64 (2 * x5_1)) - 1)))) * (rd (rd_L1 x4_1 (ji17)) x25_2))))) (wrap64 (x5_1 + 1))))) (y271009.length : Int) (wrap64 (x25_2 + 1))) else (none)))) else (none)) else (none)) else (if (wrap64 (x5_1 + 1)) = 0 then (none) else (if x25_2 < (x6_2.length : Int) then (impl_PolygonNumbers.l1 k2 a0 x4_1 x5_1 (x6_2.set (x25_2 : Int).toNat (wrap64 (Int.tdiv (wrap64 (0 + (wrap64 ((wrap64 (2 * (wrap64 ((wrap64 (2 * x5_1)) - 1)))) * (rd (rd_L1 x4_1 (ji17)) x25_2))))) (wrap64 (x5_1 + 1))))) (y271009.length : Int) (wrap64 (x25_2 + 1))) else (none)))) else (if (wrap64 (x5_1 + 1)) = 0 then (none) else (if x25_2 < (x6_2.length : Int) then (impl_PolygonNumbers.l1 k2 a0 x4_1 x5_1 (x6_2.set (x25_2 : Int).toNat (wrap64 (Int.tdiv (wrap64 (0 + (wrap64 ((wrap64 (2 * (wrap64 ((wrap64 (2 * x5_1)) - 1)))) * (rd (rd_L1 x4_1 (ji17)) x25_2))))) (wrap64 (x5_1 + 1))))) (y271009.length : Int) (wrap64 (x25_2 + 1))) else (none)))) else (none)) else (if x5_1 ≥ 2 then (if x25_2 ≥ 1 then (if 0 ≤ (wrap64 (x5_1 - 2)) then (if (wrap64 (x5_1 - 2)) < (x4_1.length : Int) then (if (wrap64 (x25_2 - 1)) < ((rd_L1 x4_1 (wrap64 (x5_1 - 2))).length : Int) then (if 0 ≤ (wrap64 (x25_2 - 1)) then (if (wrap64 (x5_1 + 1)) = 0 then (none) else (if 0 ≤ x25_2 then (if x25_2 < (x6_2.length : Int) then (impl_PolygonNumbers.l1 k2 a0 x4_1 x5_1 (x6_2.set (x25_2 : Int).toNat (wrap64 (Int.tdiv (wrap64 (0 + (wrap64 ((wrap64 ((wrap64 ((wrap64 ((wrap64 (2 * x5_1)) - 1)) * (ji17))) * (wrap64 ((wrap64 (2 * x5_1)) - 3)))) * (rd (rd_L1 x4_1 (wrap64 (x5_1 - 2))) (wrap64 (x25_2 - 1))))))) (wrap64 (x5_1 + 1))))) (y271009.length : Int) (wrap64 (x25_2 + 1))) else (none)) else (none))) else (none)) else (if (wrap64 (x5_1 + 1)) = 0 then (none) else (if 0 ≤ x25_2 then (if x25_2 < (x6_2.length : Int) then (impl_PolygonNumbers.l1 k2 a0 x4_1 x5_1 (x6_2.set (x25_2 : Int).toNat (0 : Int)) (y271009.length : Int) (wrap64 (x25_2 + 1))) else (none)) else (none)))) else (none)) else (none)) else (if (wrap64 (x5_1 + 1)) = 0 then (none) else (if 0 ≤ x25_2 then (if x25_2 < (x6_2.length : Int) then (impl_PolygonNumbers.l1 k2 a0 x4_1 x5_1 (x6_2.set (x25_2 : Int).toNat (0 : Int)) (y271009.length : Int) (wrap64 (x25_2 + 1))) else (none)) else (none)))) else (if (wrap64 (x5_1 + 1)) = 0 then (none) else (if 0 ≤ x25_2 then (if x25_2 < (x6_2.length : Int) then (impl_PolygonNumbers.l1 k2 a0 x4_1 x5_1 (x6_2.set (x25_2 : Int).toNat (0 : Int)) (y271009.length : Int) (wrap64 (x25_2 + 1))) else (none)) else (none))))) else (none)) else (none)) = some (r1, r2) := by first | (rw [hji17] at H; exact H) | (simp only [hji17] at H ⊢; exact H)
          have hji17w : (IntKind.i64.wrap (x5_1 - 1)) = ji17 := (i64_w _).trans hji17
          by_cases c18 : 0 ≤ (ji17)
          ·rw [if_pos c18] at H
           have c18b0 : decide (0 ≤ (ji17)) = true := decide_eq_true c18
           clear c18
           by_cases c19 : (ji17) < (x4_1.length : Int)
           ·rw [if_pos c19] at H
            have c19b0 : decide ((ji17) < (x4_1.length : Int)) = true := decide_eq_true c19
            clear c19
            by_cases c20 : x25_2 < ((rd_L1 x4_1 (ji17)).length : Int)
            ·rw [if_pos c20] at H
             have c20b0 : decide (x25_2 < ((rd_L1 x4_1 (ji17)).length : Int)) = true := decide_eq_true c20
             clear c20
             by_cases c21 : 0 ≤ x25_2
             ·rw [if_pos c21] at H
              have c21b0 : decide (0 ≤ x25_2) = true := decide_eq_true c21
              clear c21
              by_cases c22 : x5_1 ≥ 2
              ·rw [if_pos c22] at H
               have c22b0 : decide (2 ≤ x5_1) = true := decide_eq_true c22
               clear c22
               by_cases c23 : x25_2 ≥ 1
               ·rw [if_pos c23] at H
                have c23b0 : decide (1 ≤ x25_2) = true := decide_eq_true c23
                clear c23
                obtain ⟨ji24, hji24⟩ : ∃ j_ : Int, (wrap64 (x5_1 - 2)) = j_ := ⟨_, rfl⟩
                replace H : (if 0 ≤ (ji24) then (if (ji24) < (x4_1.length : Int) then (if (wrap64 (x25_2 - 1)) < ((rd_L1 x4_1 (ji24)).length : Int) then (if 0 ≤ (wrap64 (x25_2 - 1)) then (if (wrap64 (x5_1 + 1)) = 0 then (none) else (if x25_2 < (x6_2.length : Int) then (impl_PolygonNumbers.l1 k2 a0 x4_1 x5_1 (x6_2.set (x25_2 : Int).toNat (wrap64 (Int.tdiv (wrap64 ((wrap64 (0 + (wrap64 ((wrap64 (2 * (wrap64 ((wrap64 (2 * x5_1)) - 1)))) * (rd (rd_L1 x4_1 (ji17)) x25_2))))) + (wrap64 ((wrap64 ((wrap64 ((wrap64 ((wrap64 (2 * x5_1)) - 1)) * (ji17))) * (wrap64 ((wrap64 (2 * x5_1)) - 3)))) * (rd (rd_L1 x4_1 (ji24)) (wrap64 (x25_2 - 1))))))) (wrap64 (x5_1 + 1))))) (y271009.length : Int) (wrap64 (x25_2 + 1))) else (none))) else (none)) else (if (wrap64 (x5_1 + 1)) = 0 then (none) else (if x25_2 < (x6_2.length : Int) then (impl_PolygonNumbers.l1 k2 a0 x4_1 x5_1 (x6_2.set (x25_2 : Int).toNat (wrap64 (Int.tdiv (wrap64 (0 + (wrap64 ((wrap64 (2 * (wrap64 ((wrap64 (2 * x5_1)) - 1)))) * (rd (rd_L1 x4_1 (ji17)) x25_2))))) (wrap64 (x5_1 + 1))))) (y271009.length : Int) (wrap64 (x25_2 + 1))) else (none)))) else (none)) else (none)) = some (r1, r2) := by first | (rw [hji24] at H; exact H) | (simp only [hji24] at H ⊢; exact H)
                have hji24w : (IntKind.i64.wrap (x5_1 - 2)) = ji24 := (i64_w _).trans hji24
                by_cases c25 : 0 ≤ (ji24)
                ·rw [if_pos c25] at H
                 have c25b0 : decide (0 ≤ (ji24)) = true := decide_eq_true c25
                 clear c25
                 by_cases c26 : (ji24) < (x4_1.length : Int)
                 ·rw [if_pos c26] at H
                  have c26b0 : decide ((ji24) < (x4_1.length : Int)) = true := decide_eq_true c26
                  clear c26
                  by_cases c27 : (wrap64 (x25_2 - 1)) < ((rd_L1 x4_1 (ji24)).length : Int)
                  ·rw [if_pos c27] at H
                   have c27b0 : decide ((wrap64 (x25_2 - 1)) < ((rd_L1 x4_1 (ji24)).length : Int)) = true := decide_eq_true c27
                   clear c27
                   obtain ⟨ji28, hji28⟩ : ∃ j_ : Int, (wrap64 (x25_2 - 1)) = j_ := ⟨_, rfl⟩
                   replace H : (if 0 ≤ (ji28) then (if (wrap64 (x5_1 + 1)) = 0 then (none) else (if x25_2 < (x6_2.length : Int) then (impl_PolygonNumbers.l1 k2 a0 x4_1 x5_1 (x6_2.set (x25_2 : Int).toNat (wrap64 (Int.tdiv (wrap64 ((wrap64 (0 + (wrap64 ((wrap64 (2 * (wrap64 ((wrap64 (2 * x5_1)) - 1)))) * (rd (rd_L1 x4_1 (ji17)) x25_2))))) + (wrap64 ((wrap64 ((wrap64 ((wrap64 ((wrap64 (2 * x5_1)) - 1)) * (ji17))) * (wrap64 ((wrap64 (2 * x5_1)) - 3)))) * (rd (rd_L1 x4_1 (ji24)) (ji28)))))) (wrap64 (x5_1 + 1))))) (y271009.length : Int) (wrap64 (x25_2 + 1))) else (none))) else (none)) = some (r1, r2) := by first | (rw [hji28] at H; exact H) | (simp only [hji28] at H ⊢; exact H)
                   (try rw [hji28] at c27b0)
                   have hji28w : (IntKind.i64.wrap (x25_2 - 1)) = ji28 := (i64_w _).trans hji28
                   by_cases c29 : 0 ≤ (ji28)
                   ·rw [if_pos c29] at H
                    have c29b0 : decide (0 ≤ (ji28)) = true := decide_eq_true c29
                    clear c29
                    by_cases c30 : (wrap64 (x5_1 + 1)) = 0
                    ·rw [if_pos c30] at H
                     exact absurd H (by simp)
                    ·rw [if_neg c30] at H
                     have c30b0 : ((wrap64 (x5_1 + 1)) == 0) = false := beq_eq_false_iff_ne.mpr c30
                     have c30b1 : ((wrap64 (x5_1 + 1)) != 0) = true := bne_iff_ne.mpr c30
                     by_cases c31 : x25_2 < (x6_2.length : Int)
                     ·rw [if_pos c31] at H
                      have c31b0 : decide (x25_2 < (x6_2.length : Int)) = true := decide_eq_true c31
                      clear c31
                      obtain ⟨y271021, hy271021⟩ : ∃ y_ : List Int, y_ = (x6_2.set (x25_2 : Int).toNat (wrap64 (Int.tdiv (wrap64 ((wrap64 (0 + (wrap64 ((wrap64 (2 * (wrap64 ((wrap64 (2 * x5_1)) - 1)))) * (rd (rd_L1 x4_1 (ji17)) x25_2))))) + (wrap64 ((wrap64 ((wrap64 ((wrap64 ((wrap64 (2 * x5_1)) - 1)) * (ji17))) * (wrap64 ((wrap64 (2 * x5_1)) - 3)))) * (rd (rd_L1 x4_1 (ji24)) (ji28)))))) (wrap64 (x5_1 + 1))))) := ⟨_, rfl⟩
                      replace H : (impl_PolygonNumbers.l1 k2 a0 x4_1 x5_1 y271021 (y271009.length : Int) (wrap64 (x25_2 + 1))) = some (r1, r2) := by first | (rw [hy271021]; with_reducible exact H) | (have H2_ := (Option.bind_some _ _).symm.trans H; rw [hy271021]; with_reducible exact H2_) | (have H2_ := (Option.bind_some _ _).symm.trans H; with_reducible exact H2_) | with_reducible exact H | (rw [hy271021]; exact H) | exact H
                      have Ny271021 := Aside0.mk hy271021
                      clear hy271021
                      have H' := Aside0.mk H
                      clear H
                      obtain ⟨Ao33, co33, eo33⟩ := Kd.N_slice HO_4.out
                      subst eo33
                      have p271015 : 0 ≤ ((ji17) : Int) := of_decide_eq_true (by first | (with_reducible assumption) | assumption)
                      have q271015 : (ji17) < (x4_1.length : Int) := of_decide_eq_true (by first | (with_reducible assumption) | assumption)
                      obtain ⟨ad271015, A271015_0, c271015_0, e271015, hx271015_0, hl271015_0, hi271015_0⟩ := at_L1 (Mem.C_own (Kd.N_reads' HO_4.out).2.2) (ji17) p271015 q271015
                      cases e271015
                      obtain ⟨ce271015, hce271015, hMe271015, hcc271015⟩ := Kd.N_get HO_4.out [] (ji17) p271015 (by first | exact q271015 | exact of_decide_eq_true (by first | (with_reducible assumption) | assumption) | (have e_ := (Kd.N_reads' HO_4.out).1; omega))
                      obtain ⟨ua271015_0, uc271015_0, rfl, ul271015_0, ge271015_0⟩ := Mem.FK_own_open hMe271015
                      have hv271015_0 := hcc271015 0 _ rfl
                      rw [Nat.add_zero, show ((Mem.ownk 2 w.heap.size)).sz = 1 from rfl, Nat.mul_one] at hv271015_0
                      replace hv271015_0 := Option.some.inj (hv271015_0.symm.trans hx271015_0)
                      injection hv271015_0 with hva_ hvn_ hvc_
                      rw [hva_] at ge271015_0
                      rw [hvc_] at ul271015_0
                      have HL271015_0 := Aside0.mk (show Kd.V (Kd.int .i64) 2 _ w.heap.size _ _ (rd_L1 x4_1 (ji17)) from Kd.V_mk ul271015_0 ge271015_0)
                      have HWO271015 := Aside0.mk (Mem.own_at hMe271015 hva_ hvn_ hvc_)
                      clear hva_ hvn_ hvc_ ge271015_0 ul271015_0
                      clear hcc271015 hce271015
                      have HR271015_0 := Aside0.mk hi271015_0
                      have HC271015_0 := Aside0.mk hl271015_0
                      clear hi271015_0 hl271015_0
                      replace p271015 := eq_true p271015
                      replace q271015 := eq_true q271015
                      have p271016 : 0 ≤ ((ji17) : Int) := of_decide_eq_true (by first | (with_reducible assumption) | assumption)
                      have q271016 : (ji17) < (x4_1.length : Int) := of_decide_eq_true (by first | (with_reducible assumption) | assumption)
                      obtain ⟨ad271016, A271016_0, c271016_0, e271016, hx271016_0, hl271016_0, hi271016_0⟩ := at_L1 (Mem.C_own (Kd.N_reads' HO_4.out).2.2) (ji17) p271016 q271016
                      obtain rfl : ad271015 = ad271016 := (by injection e271016)
                      obtain ⟨ce271016, hce271016, hMe271016, hcc271016⟩ := Kd.N_get HO_4.out [] (ji17) p271016 (by first | exact q271016 | exact of_decide_eq_true (by first | (with_reducible assumption) | assumption) | (have e_ := (Kd.N_reads' HO_4.out).1; omega))
                      obtain ⟨ua271016_0, uc271016_0, rfl, ul271016_0, ge271016_0⟩ := Mem.FK_own_open hMe271016
                      have hv271016_0 := hcc271016 0 _ rfl
                      rw [Nat.add_zero, show ((Mem.ownk 2 w.heap.size)).sz = 1 from rfl, Nat.mul_one] at hv271016_0
                      replace hv271016_0 := Option.some.inj (hv271016_0.symm.trans hx271016_0)
                      injection hv271016_0 with hva_ hvn_ hvc_
                      rw [hva_] at ge271016_0
                      rw [hvc_] at ul271016_0
                      have HL271016_0 := Aside0.mk (show Kd.V (Kd.int .i64) 2 _ w.heap.size _ _ (rd_L1 x4_1 (ji17)) from Kd.V_mk ul271016_0 ge271016_0)
                      have HWO271016 := Aside0.mk (Mem.own_at hMe271016 hva_ hvn_ hvc_)
                      clear hva_ hvn_ hvc_ ge271016_0 ul271016_0
                      clear hcc271016 hce271016
                      have HR271016_0 := Aside0.mk hi271016_0
                      have HC271016_0 := Aside0.mk hl271016_0
                      clear hi271016_0 hl271016_0
                      replace p271016 := eq_true p271016
                      replace q271016 := eq_true q271016
                      have ea_ := Option.some.inj (hx271015_0.symm.trans hx271016_0)
                      injection ea_ with ea_ en_ ec_
                      subst ea_
                      subst ec_
                      clear en_
                      have p271017 : 0 ≤ (x25_2 : Int) := of_decide_eq_true (by first | (with_reducible assumption) | assumption)
                      have q271017 : x25_2 < ((rd_L1 x4_1 (ji17)).length : Int) := of_decide_eq_true (by first | (with_reducible assumption) | assumption)
                      obtain ⟨ad271017, e271017, hx271017_0⟩ := Kd.at_int (by repeat (first | (with_reducible exact HR271016_0.out) | (with_reducible refine Kd.C_alloc ?_ _) | (with_reducible refine Kd.C_drewN ?_ _) | (with_reducible refine Kd.C_drew ?_) | exact HR271016_0.out)) x25_2 p271017 q271017
                      cases e271017
                      replace p271017 := eq_true p271017
                      replace q271017 := eq_true q271017
                      have p271018 : 0 ≤ ((ji24) : Int) := of_decide_eq_true (by first | (with_reducible assumption) | assumption)
                      have q271018 : (ji24) < (x4_1.length : Int) := of_decide_eq_true (by first | (with_reducible assumption) | assumption)
                      obtain ⟨ad271018, A271018_0, c271018_0, e271018, hx271018_0, hl271018_0, hi271018_0⟩ := at_L1 (Mem.C_own (Kd.N_reads' HO_4.out).2.2) (ji24) p271018 q271018
                      obtain rfl : ad271015 = ad271018 := (by injection e271018)
                      obtain ⟨ce271018, hce271018, hMe271018, hcc271018⟩ := Kd.N_get HO_4.out [] (ji24) p271018 (by first | exact q271018 | exact of_decide_eq_true (by first | (with_reducible assumption) | assumption) | (have e_ := (Kd.N_reads' HO_4.out).1; omega))
                      obtain ⟨ua271018_0, uc271018_0, rfl, ul271018_0, ge271018_0⟩ := Mem.FK_own_open hMe271018
                      have hv271018_0 := hcc271018 0 _ rfl
                      rw [Nat.add_zero, show ((Mem.ownk 2 w.heap.size)).sz = 1 from rfl, Nat.mul_one] at hv271018_0
                      replace hv271018_0 := Option.some.inj (hv271018_0.symm.trans hx271018_0)
                      injection hv271018_0 with hva_ hvn_ hvc_
                      rw [hva_] at ge271018_0
                      rw [hvc_] at ul271018_0
                      have HL271018_0 := Aside0.mk (show Kd.V (Kd.int .i64) 2 _ w.heap.size _ _ (rd_L1 x4_1 (ji24)) from Kd.V_mk ul271018_0 ge271018_0)
                      have HWO271018 := Aside0.mk (Mem.own_at hMe271018 hva_ hvn_ hvc_)
                      clear hva_ hvn_ hvc_ ge271018_0 ul271018_0
                      clear hcc271018 hce271018
                      have HR271018_0 := Aside0.mk hi271018_0
                      have HC271018_0 := Aside0.mk hl271018_0
                      clear hi271018_0 hl271018_0
                      replace p271018 := eq_true p271018
                      replace q271018 := eq_true q271018
                      have p271019 : 0 ≤ ((ji24) : Int) := of_decide_eq_true (by first | (with_reducible assumption) | assumption)
                      have q271019 : (ji24) < (x4_1.length : Int) := of_decide_eq_true (by first | (with_reducible assumption) | assumption)
                      obtain ⟨ad271019, A271019_0, c271019_0, e271019, hx271019_0, hl271019_0, hi271019_0⟩ := at_L1 (Mem.C_own (Kd.N_reads' HO_4.out).2.2) (ji24) p271019 q271019
                      obtain rfl : ad271015 = ad271019 := (by injection e271019)
                      obtain ⟨ce271019, hce271019, hMe271019, hcc271019⟩ := Kd.N_get HO_4.out [] (ji24) p271019 (by first | exact q271019 | exact of_decide_eq_true (by first | (with_reducible assumption) | assumption) | (have e_ := (Kd.N_reads' HO_4.out).1; omega))
                      obtain ⟨ua271019_0, uc271019_0, rfl, ul271019_0, ge271019_0⟩ := Mem.FK_own_open hMe271019
                      have hv271019_0 := hcc271019 0 _ rfl
                      rw [Nat.add_zero, show ((Mem.ownk 2 w.heap.size)).sz = 1 from rfl, Nat.mul_one] at hv271019_0
                      replace hv271019_0 := Option.some.inj (hv271019_0.symm.trans hx271019_0)
                      injection hv271019_0 with hva_ hvn_ hvc_
                      rw [hva_] at ge271019_0
                      rw [hvc_] at ul271019_0
                      have HL271019_0 := Aside0.mk (show Kd.V (Kd.int .i64) 2 _ w.heap.size _ _ (rd_L1 x4_1 (ji24)) from Kd.V_mk ul271019_0 ge271019_0)
                      have HWO271019 := Aside0.mk (Mem.own_at hMe271019 hva_ hvn_ hvc_)
                      clear hva_ hvn_ hvc_ ge271019_0 ul271019_0
                      clear hcc271019 hce271019
                      have HR271019_0 := Aside0.mk hi271019_0
                      have HC271019_0 := Aside0.mk hl271019_0
                      clear hi271019_0 hl271019_0
                      replace p271019 := eq_true p271019
                      replace q271019 := eq_true q271019
                      have ea_ := Option.some.inj (hx271018_0.symm.trans hx271019_0)
                      injection ea_ with ea_ en_ ec_
                      subst ea_
                      subst ec_
                      clear en_
                      have p271020 : 0 ≤ ((ji28) : Int) := of_decide_eq_true (by first | (with_reducible assumption) | assumption)
                      have q271020 : (ji28) < ((rd_L1 x4_1 (ji24)).length : Int) := of_decide_eq_true (by first | (with_reducible assumption) | assumption)
                      obtain ⟨ad271020, e271020, hx271020_0⟩ := Kd.at_int (by repeat (first | (with_reducible exact HR271019_0.out) | (with_reducible refine Kd.C_alloc ?_ _) | (with_reducible refine Kd.C_drewN ?_ _) | (with_reducible refine Kd.C_drew ?_) | exact HR271019_0.out)) (ji28) p271020 q271020
                      cases e271020
                      replace p271020 := eq_true p271020
                      replace q271020 := eq_true q271020
                      have p32 : 0 ≤ (x25_2 : Int) := of_decide_eq_true (by first | (with_reducible assumption) | assumption)
                      have q32 : (x25_2 : Int) < ((x6_2.length : Int) : Int) := of_decide_eq_true (by first | (with_reducible assumption) | assumption)
                      obtain ⟨go32, co32, eo32, gb32, gl32, cl32, HG32⟩ := Kd.R_form HO_6.out (by omega)
                      (first | cases eo32 | (injection eo32 with ea_ en_ ec_; (first | subst ea_ | (injection ea_ with ea_; subst ea_)); subst ec_; clear en_))
                      have GB32 := Aside0.mk gb32
                      have GG32 := Aside0.mk HG32
                      clear gb32 gl32 HG32
                      obtain ⟨hx32_0, hf32_0⟩ := Kd.R_celln 0 HO_6.out (x25_2 : Int) p32 q32
                      replace p32 := eq_true p32
                      replace q32 := eq_true q32
                      have HP34 := Kd.R_putg HO_6.out (x25_2 : Int) (wrap64 (Int.tdiv (wrap64 ((wrap64 (0 + (wrap64 ((wrap64 (2 * (wrap64 ((wrap64 (2 * x5_1)) - 1)))) * (rd (rd_L1 x4_1 (ji17)) x25_2))))) + (wrap64 ((wrap64 ((wrap64 ((wrap64 ((wrap64 (2 * x5_1)) - 1)) * (ji17))) * (wrap64 ((wrap64 (2 * x5_1)) - 3)))) * (rd (rd_L1 x4_1 (ji24)) (ji28)))))) (wrap64 (x5_1 + 1))))
                      go_wp2_with (first | ((with_reducible refine gate_store (t := 2) (p := 96) rfl ?_); refine store_event (t := 2) (p := 96) (v := ?vo_w35) (w1 := (wr.setCell ⟨go32, (x25_2 : Int).toNat, none⟩ (.int .i64 (wrap64 (Int.tdiv (wrap64 ((wrap64 (0 + (wrap64 ((wrap64 (2 * (wrap64 ((wrap64 (2 * x5_1)) - 1)))) * (rd (rd_L1 x4_1 (ji17)) x25_2))))) + (wrap64 ((wrap64 ((wrap64 ((wrap64 ((wrap64 (2 * x5_1)) - 1)) * (ji17))) * (wrap64 ((wrap64 (2 * x5_1)) - 3)))) * (rd (rd_L1 x4_1 (ji24)) (ji28)))))) (wrap64 (x5_1 + 1))))))) ?hg ?ho ?hn ?hr ?_; (case ho => rfl); (case hg => rfl); (case hn => rfl); (case hr => first | (go_simp; done) | (go_simp; rfl)); intro w35 hw; have hg : wr.grownBy w35 (some go32) := (by rw [hw]; exact HP34.2); have hp_ : Kd.R (Kd.int .i64) 2 w35 w.heap.size (fun k_ => (w.heap.size ≤ k_)) (.slice (some ⟨go32, 0, none⟩) x6_2.length co15) y271021 := (by rw [hw, Ny271021.out]; exact HP34.1); clear HP34; have n0_ := Aside0.mk (Kd.N_afterv (v := (.slice (some ⟨go32, 0, none⟩) x6_2.length co15)) (v1 := (.slice (some ⟨go32, 0, none⟩) x6_2.length co15)) (ok := (fun k_ => (w.heap.size ≤ k_))) (by (with_reducible repeat (first | apply Kd.N_alloc | apply Kd.N_drewN | apply Kd.N_drew)); exact HO_4.out) hg (.inl rfl)); have n1_ := Aside0.mk (hp_); have n2_ := Aside0.mk (Kd.V_afterv (v := (.slice (some ⟨go32, 0, none⟩) x6_2.length co15)) (v1 := (.slice (some ⟨go32, 0, none⟩) x6_2.length co15)) (ok := (fun k_ => (w.heap.size ≤ k_) ∧ some k_ ≠ (.slice (some ad271015) x4_1.length co33 : Value).ownBlock)) (by (with_reducible repeat (first | apply Kd.V_alloc | apply Kd.V_drewN | apply Kd.V_drew)); exact Kd.V_mono HL271015_0.out (fun _ hk => ⟨⟨hk.1.1, hk.2⟩, hk.1.2⟩)) hg (.inl rfl)); have n3_ := Aside0.mk (Kd.V_afterv (v := (.slice (some ⟨go32, 0, none⟩) x6_2.length co15)) (v1 := (.slice (some ⟨go32, 0, none⟩) x6_2.length co15)) (ok := (fun k_ => (w.heap.size ≤ k_) ∧ some k_ ≠ (.slice (some ad271015) x4_1.length co33 : Value).ownBlock)) (by (with_reducible repeat (first | apply Kd.V_alloc | apply Kd.V_drewN | apply Kd.V_drew)); exact Kd.V_mono HL271016_0.out (fun _ hk => ⟨⟨hk.1.1, hk.2⟩, hk.1.2⟩)) hg (.inl rfl)); have n4_ := Aside0.mk (Kd.V_afterv (v := (.slice (some ⟨go32, 0, none⟩) x6_2.length co15)) (v1 := (.slice (some ⟨go32, 0, none⟩) x6_2.length co15)) (ok := (fun k_ => (w.heap.size ≤ k_) ∧ some k_ ≠ (.slice (some ad271015) x4_1.length co33 : Value).ownBlock)) (by (with_reducible repeat (first | apply Kd.V_alloc | apply Kd.V_drewN | apply Kd.V_drew)); exact Kd.V_mono HL271018_0.out (fun _ hk => ⟨⟨hk.1.1, hk.2⟩, hk.1.2⟩)) hg (.inl rfl)); have n5_ := Aside0.mk (Kd.V_afterv (v := (.slice (some ⟨go32, 0, none⟩) x6_2.length co15)) (v1 := (.slice (some ⟨go32, 0, none⟩) x6_2.length co15)) (ok := (fun k_ => (w.heap.size ≤ k_) ∧ some k_ ≠ (.slice (some ad271015) x4_1.length co33 : Value).ownBlock)) (by (with_reducible repeat (first | apply Kd.V_alloc | apply Kd.V_drewN | apply Kd.V_drew)); exact Kd.V_mono HL271019_0.out (fun _ hk => ⟨⟨hk.1.1, hk.2⟩, hk.1.2⟩)) hg (.inl rfl)); have n6_ := Aside0.mk ((by rw [hw]; exact below_set (HB.out) GB32.out : Below w.heap.size w w35)); clear HO_4; clear HO_6; clear HL271015_0; clear HL271016_0; clear HL271018_0; clear HL271019_0; clear HB; have HO_4 := n0_; have HO_6 := n1_; have HL271015_0 := n2_; have HL271016_0 := n3_; have HL271018_0 := n4_; have HL271019_0 := n5_; have HB := n6_; clear n0_ n1_ n2_ n3_ n4_ n5_ n6_; clear hg hw hp_))
                      (try simp only [← hl6_2])
                      go_roundg k2
                      case measure => have := HK1.out; have := HK2.out; omega
                      case rel => exact ⟨(y271021), (wrap64 (x25_2 + 1)), (by first | rfl | (simp; done) | (simp [*]; done)), H', ⟨by have := HK1.out; have := HK2.out; omega⟩, ⟨by (try simp only [hl6_2]); (with_reducible repeat (first | apply Kd.N_alloc | apply Kd.N_drewN | apply Kd.N_drew)); exact HO_4.out⟩, ⟨by (try simp only [hl6_2]); (with_reducible repeat (first | apply Kd.R_alloc | apply Kd.R_drewN | apply Kd.R_drew)); exact HO_6.out⟩, ⟨by repeat (first | (with_reducible first | exact HB.out | apply below_alloc | apply pw_below_drewN | apply below_drew1) | exact HB.out)⟩⟩
                     ·rw [if_neg c31] at H
                      exact absurd H (by simp)
                   ·rw [if_neg c29] at H
                    exact absurd H (by simp)
                  ·rw [if_neg c27] at H
                   have c27b0 : decide ((wrap64 (x25_2 - 1)) < ((rd_L1 x4_1 (ji24)).length : Int)) = false := decide_eq_false c27
                   clear c27
                   by_cases c36 : (wrap64 (x5_1 + 1)) = 0
                   ·rw [if_pos c36] at H
                    exact absurd H (by simp)
                   ·rw [if_neg c36] at H
                    have c36b0 : ((wrap64 (x5_1 + 1)) == 0) = false := beq_eq_false_iff_ne.mpr c36
                    have c36b1 : ((wrap64 (x5_1 + 1)) != 0) = true := bne_iff_ne.mpr c36
                    by_cases c37 : x25_2 < (x6_2.length : Int)
                    ·rw [if_pos c37] at H
                     have c37b0 : decide (x25_2 < (x6_2.length : Int)) = true := decide_eq_true c37
                     clear c37
                     obtain ⟨y271022, hy271022⟩ : ∃ y_ : List Int, y_ = (x6_2.set (x25_2 : Int).toNat (wrap64 (Int.tdiv (wrap64 (0 + (wrap64 ((wrap64 (2 * (wrap64 ((wrap64 (2 * x5_1)) - 1)))) * (rd (rd_L1 x4_1 (ji17)) x25_2))))) (wrap64 (x5_1 + 1))))) := ⟨_, rfl⟩
                     replace H : (impl_PolygonNumbers.l1 k2 a0 x4_1 x5_1 y271022 (y271009.length : Int) (wrap64 (x25_2 + 1))) = some (r1, r2) := by first | (rw [hy271022]; with_reducible exact H) | (have H2_ := (Option.bind_some _ _).symm.trans H; rw [hy271022]; with_reducible exact H2_) | (have H2_ := (Option.bind_some _ _).symm.trans H; with_reducible exact H2_) | with_reducible exact H | (rw [hy271022]; exact H) | exact H
                     have Ny271022 := Aside0.mk hy271022
                     clear hy271022
                     have H' := Aside0.mk H
                     clear H
                     obtain ⟨Ao39, co39, eo39⟩ := Kd.N_slice HO_4.out
                     subst eo39
                     have p271015 : 0 ≤ ((ji17) : Int) := of_decide_eq_true (by first | (with_reducible assumption) | assumption)
                     have q271015 : (ji17) < (x4_1.length : Int) := of_decide_eq_true (by first | (with_reducible assumption) | assumption)
                     obtain ⟨ad271015, A271015_0, c271015_0, e271015, hx271015_0, hl271015_0, hi271015_0⟩ := at_L1 (Mem.C_own (Kd.N_reads' HO_4.out).2.2) (ji17) p271015 q271015
                     cases e271015
                     obtain ⟨ce271015, hce271015, hMe271015, hcc271015⟩ := Kd.N_get HO_4.out [] (ji17) p271015 (by first | exact q271015 | exact of_decide_eq_true (by first | (with_reducible assumption) | assumption) | (have e_ := (Kd.N_reads' HO_4.out).1; omega))
                     obtain ⟨ua271015_0, uc271015_0, rfl, ul271015_0, ge271015_0⟩ := Mem.FK_own_open hMe271015
                     have hv271015_0 := hcc271015 0 _ rfl
                     rw [Nat.add_zero, show ((Mem.ownk 2 w.heap.size)).sz = 1 from rfl, Nat.mul_one] at hv271015_0
                     replace hv271015_0 := Option.some.inj (hv271015_0.symm.trans hx271015_0)
                     injection hv271015_0 with hva_ hvn_ hvc_
                     rw [hva_] at ge271015_0
                     rw [hvc_] at ul271015_0
                     have HL271015_0 := Aside0.mk (show Kd.V (Kd.int .i64) 2 _ w.heap.size _ _ (rd_L1 x4_1 (ji17)) from Kd.V_mk ul271015_0 ge271015_0)
                     have HWO271015 := Aside0.mk (Mem.own_at hMe271015 hva_ hvn_ hvc_)
                     clear hva_ hvn_ hvc_ ge271015_0 ul271015_0
                     clear hcc271015 hce271015
                     have HR271015_0 := Aside0.mk hi271015_0
                     have HC271015_0 := Aside0.mk hl271015_0
                     clear hi271015_0 hl271015_0
                     replace p271015 := eq_true p271015
                     replace q271015 := eq_true q271015
                     have p271016 : 0 ≤ ((ji17) : Int) := of_decide_eq_true (by first | (with_reducible assumption) | assumption)
                     have q271016 : (ji17) < (x4_1.length : Int) := of_decide_eq_true (by first | (with_reducible assumption) | assumption)
                     obtain ⟨ad271016, A271016_0, c271016_0, e271016, hx271016_0, hl271016_0, hi271016_0⟩ := at_L1 (Mem.C_own (Kd.N_reads' HO_4.out).2.2) (ji17) p271016 q271016
                     obtain rfl : ad271015 = ad271016 := (by injection e271016)
                     obtain ⟨ce271016, hce271016, hMe271016, hcc271016⟩ := Kd.N_get HO_4.out [] (ji17) p271016 (by first | exact q271016 | exact of_decide_eq_true (by first | (with_reducible assumption) | assumption) | (have e_ := (Kd.N_reads' HO_4.out).1; omega))
                     obtain ⟨ua271016_0, uc271016_0, rfl, ul271016_0, ge271016_0⟩ := Mem.FK_own_open hMe271016
                     have hv271016_0 := hcc271016 0 _ rfl
                     rw [Nat.add_zero, show ((Mem.ownk 2 w.heap.size)).sz = 1 from rfl, Nat.mul_one] at hv271016_0
                     replace hv271016_0 := Option.some.inj (hv271016_0.symm.trans hx271016_0)
                     injection hv271016_0 with hva_ hvn_ hvc_
                     rw [hva_] at ge271016_0
                     rw [hvc_] at ul271016_0
                     have HL271016_0 := Aside0.mk (show Kd.V (Kd.int .i64) 2 _ w.heap.size _ _ (rd_L1 x4_1 (ji17)) from Kd.V_mk ul271016_0 ge271016_0)
                     have HWO271016 := Aside0.mk (Mem.own_at hMe271016 hva_ hvn_ hvc_)
                     clear hva_ hvn_ hvc_ ge271016_0 ul271016_0
                     clear hcc271016 hce271016
                     have HR271016_0 := Aside0.mk hi271016_0
                     have HC271016_0 := Aside0.mk hl271016_0
                     clear hi271016_0 hl271016_0
                     replace p271016 := eq_true p271016
                     replace q271016 := eq_true q271016
                     have ea_ := Option.some.inj (hx271015_0.symm.trans hx271016_0)
                     injection ea_ with ea_ en_ ec_
                     subst ea_
                     subst ec_
                     clear en_
                     have p271017 : 0 ≤ (x25_2 : Int) := of_decide_eq_true (by first | (with_reducible assumption) | assumption)
                     have q271017 : x25_2 < ((rd_L1 x4_1 (ji17)).length : Int) := of_decide_eq_true (by first | (with_reducible assumption) | assumption)
                     obtain ⟨ad271017, e271017, hx271017_0⟩ := Kd.at_int (by repeat (first | (with_reducible exact HR271016_0.out) | (with_reducible refine Kd.C_alloc ?_ _) | (with_reducible refine Kd.C_drewN ?_ _) | (with_reducible refine Kd.C_drew ?_) | exact HR271016_0.out)) x25_2 p271017 q271017
                     cases e271017
                     replace p271017 := eq_true p271017
                     replace q271017 := eq_true q271017
                     have p271018 : 0 ≤ ((ji24) : Int) := of_decide_eq_true (by first | (with_reducible assumption) | assumption)
                     have q271018 : (ji24) < (x4_1.length : Int) := of_decide_eq_true (by first | (with_reducible assumption) | assumption)
                     obtain ⟨ad271018, A271018_0, c271018_0, e271018, hx271018_0, hl271018_0, hi271018_0⟩ := at_L1 (Mem.C_own (Kd.N_reads' HO_4.out).2.2) (ji24) p271018 q271018
                     obtain rfl : ad271015 = ad271018 := (by injection e271018)
                     obtain ⟨ce271018, hce271018, hMe271018, hcc271018⟩ := Kd.N_get HO_4.out [] (ji24) p271018 (by first | exact q271018 | exact of_decide_eq_true (by first | (with_reducible assumption) | assumption) | (have e_ := (Kd.N_reads' HO_4.out).1; omega))
                     obtain ⟨ua271018_0, uc271018_0, rfl, ul271018_0, ge271018_0⟩ := Mem.FK_own_open hMe271018
                     have hv271018_0 := hcc271018 0 _ rfl
                     rw [Nat.add_zero, show ((Mem.ownk 2 w.heap.size)).sz = 1 from rfl, Nat.mul_one] at hv271018_0
                     replace hv271018_0 := Option.some.inj (hv271018_0.symm.trans hx271018_0)
                     injection hv271018_0 with hva_ hvn_ hvc_
                     rw [hva_] at ge271018_0
                     rw [hvc_] at ul271018_0
                     have HL271018_0 := Aside0.mk (show Kd.V (Kd.int .i64) 2 _ w.heap.size _ _ (rd_L1 x4_1 (ji24)) from Kd.V_mk ul271018_0 ge271018_0)
                     have HWO271018 := Aside0.mk (Mem.own_at hMe271018 hva_ hvn_ hvc_)
                     clear hva_ hvn_ hvc_ ge271018_0 ul271018_0
                     clear hcc271018 hce271018
                     have HR271018_0 := Aside0.mk hi271018_0
                     have HC271018_0 := Aside0.mk hl271018_0
                     clear hi271018_0 hl271018_0
                     replace p271018 := eq_true p271018
                     replace q271018 := eq_true q271018
                     have p38 : 0 ≤ (x25_2 : Int) := of_decide_eq_true (by first | (with_reducible assumption) | assumption)
                     have q38 : (x25_2 : Int) < ((x6_2.length : Int) : Int) := of_decide_eq_true (by first | (with_reducible assumption) | assumption)
                     obtain ⟨go38, co38, eo38, gb38, gl38, cl38, HG38⟩ := Kd.R_form HO_6.out (by omega)
                     (first | cases eo38 | (injection eo38 with ea_ en_ ec_; (first | subst ea_ | (injection ea_ with ea_; subst ea_)); subst ec_; clear en_))
                     have GB38 := Aside0.mk gb38
                     have GG38 := Aside0.mk HG38
                     clear gb38 gl38 HG38
                     obtain ⟨hx38_0, hf38_0⟩ := Kd.R_celln 0 HO_6.out (x25_2 : Int) p38 q38
                     replace p38 := eq_true p38
                     replace q38 := eq_true q38
                     have HP40 := Kd.R_putg HO_6.out (x25_2 : Int) (wrap64 (Int.tdiv (wrap64 (0 + (wrap64 ((wrap64 (2 * (wrap64 ((wrap64 (2 * x5_1)) - 1)))) * (rd (rd_L1 x4_1 (ji17)) x25_2))))) (wrap64 (x5_1 + 1))))
                     go_wp2_with (first | ((with_reducible refine gate_store (t := 2) (p := 96) rfl ?_); refine store_event (t := 2) (p := 96) (v := ?vo_w41) (w1 := (wr.setCell ⟨go38, (x25_2 : Int).toNat, none⟩ (.int .i64 (wrap64 (Int.tdiv (wrap64 (0 + (wrap64 ((wrap64 (2 * (wrap64 ((wrap64 (2 * x5_1)) - 1)))) * (rd (rd_L1 x4_1 (ji17)) x25_2))))) (wrap64 (x5_1 + 1))))))) ?hg ?ho ?hn ?hr ?_; (case ho => rfl); (case hg => rfl); (case hn => rfl); (case hr => first | (go_simp; done) | (go_simp; rfl)); intro w41 hw; have hg : wr.grownBy w41 (some go38) := (by rw [hw]; exact HP40.2); have hp_ : Kd.R (Kd.int .i64) 2 w41 w.heap.size (fun k_ => (w.heap.size ≤ k_)) (.slice (some ⟨go38, 0, none⟩) x6_2.length co15) y271022 := (by rw [hw, Ny271022.out]; exact HP40.1); clear HP40; have n0_ := Aside0.mk (Kd.N_afterv (v := (.slice (some ⟨go38, 0, none⟩) x6_2.length co15)) (v1 := (.slice (some ⟨go38, 0, none⟩) x6_2.length co15)) (ok := (fun k_ => (w.heap.size ≤ k_))) (by (with_reducible repeat (first | apply Kd.N_alloc | apply Kd.N_drewN | apply Kd.N_drew)); exact HO_4.out) hg (.inl rfl)); have n1_ := Aside0.mk (hp_); have n2_ := Aside0.mk (Kd.V_afterv (v := (.slice (some ⟨go38, 0, none⟩) x6_2.length co15)) (v1 := (.slice (some ⟨go38, 0, none⟩) x6_2.length co15)) (ok := (fun k_ => (w.heap.size ≤ k_) ∧ some k_ ≠ (.slice (some ad271015) x4_1.length co39 : Value).ownBlock)) (by (with_reducible repeat (first | apply Kd.V_alloc | apply Kd.V_drewN | apply Kd.V_drew)); exact Kd.V_mono HL271015_0.out (fun _ hk => ⟨⟨hk.1.1, hk.2⟩, hk.1.2⟩)) hg (.inl rfl)); have n3_ := Aside0.mk (Kd.V_afterv (v := (.slice (some ⟨go38, 0, none⟩) x6_2.length co15)) (v1 := (.slice (some ⟨go38, 0, none⟩) x6_2.length co15)) (ok := (fun k_ => (w.heap.size ≤ k_) ∧ some k_ ≠ (.slice (some ad271015) x4_1.length co39 : Value).ownBlock)) (by (with_reducible repeat (first | apply Kd.V_alloc | apply Kd.V_drewN | apply Kd.V_drew)); exact Kd.V_mono HL271016_0.out (fun _ hk => ⟨⟨hk.1.1, hk.2⟩, hk.1.2⟩)) hg (.inl rfl)); have n4_ := Aside0.mk (Kd.V_afterv (v := (.slice (some ⟨go38, 0, none⟩) x6_2.length co15)) (v1 := (.slice (some ⟨go38, 0, none⟩) x6_2.length co15)) (ok := (fun k_ => (w.heap.size ≤ k_) ∧ some k_ ≠ (.slice (some ad271015) x4_1.length co39 : Value).ownBlock)) (by (with_reducible repeat (first | apply Kd.V_alloc | apply Kd.V_drewN | apply Kd.V_drew)); exact Kd.V_mono HL271018_0.out (fun _ hk => ⟨⟨hk.1.1, hk.2⟩, hk.1.2⟩)) hg (.inl rfl)); have n5_ := Aside0.mk ((by rw [hw]; exact below_set (HB.out) GB38.out : Below w.heap.size w w41)); clear HO_4; clear HO_6; clear HL271015_0; clear HL271016_0; clear HL271018_0; clear HB; have HO_4 := n0_; have HO_6 := n1_; have HL271015_0 := n2_; have HL271016_0 := n3_; have HL271018_0 := n4_; have HB := n5_; clear n0_ n1_ n2_ n3_ n4_ n5_; clear hg hw hp_))
                     (try simp only [← hl6_2])
                     go_roundg k2
                     case measure => have := HK1.out; have := HK2.out; omega
                     case rel => exact ⟨(y271022), (wrap64 (x25_2 + 1)), (by first | rfl | (simp; done) | (simp [*]; done)), H', ⟨by have := HK1.out; have := HK2.out; omega⟩, ⟨by (try simp only [hl6_2]); (with_reducible repeat (first | apply Kd.N_alloc | apply Kd.N_drewN | apply Kd.N_drew)); exact HO_4.out⟩, ⟨by (try simp only [hl6_2]); (with_reducible repeat (first | apply Kd.R_alloc | apply Kd.R_drewN | apply Kd.R_drew)); exact HO_6.out⟩, ⟨by repeat (first | (with_reducible first | exact HB.out | apply below_alloc | apply pw_below_drewN | apply below_drew1) | exact HB.out)⟩⟩
                    ·rw [if_neg c37] at H
                     exact absurd H (by simp)
                 ·rw [if_neg c26] at H
                  exact absurd H (by simp)
                ·rw [if_neg c25] at H
                 exact absurd H (by simp)
               ·rw [if_neg c23] at H
                have c23b0 : decide (1 ≤ x25_2) = false := decide_eq_false c23
                clear c23
                by_cases c42 : (wrap64 (x5_1 + 1)) = 0
                ·rw [if_pos c42] at H
                 exact absurd H (by simp)
                ·rw [if_neg c42] at H
                 have c42b0 : ((wrap64 (x5_1 + 1)) == 0) = false := beq_eq_false_iff_ne.mpr c42
                 have c42b1 : ((wrap64 (x5_1 + 1)) != 0) = true := bne_iff_ne.mpr c42
                 by_cases c43 : x25_2 < (x6_2.length : Int)
                 ·rw [if_pos c43] at H
                  have c43b0 : decide (x25_2 < (x6_2.length : Int)) = true := decide_eq_true c43
                  clear c43
                  obtain ⟨y271023, hy271023⟩ : ∃ y_ : List Int, y_ = (x6_2.set (x25_2 : Int).toNat (wrap64 (Int.tdiv (wrap64 (0 + (wrap64 ((wrap64 (2 * (wrap64 ((wrap64 (2 * x5_1)) - 1)))) * (rd (rd_L1 x4_1 (ji17)) x25_2))))) (wrap64 (x5_1 + 1))))) := ⟨_, rfl⟩
                  replace H : (impl_PolygonNumbers.l1 k2 a0 x4_1 x5_1 y271023 (y271009.length : Int) (wrap64 (x25_2 + 1))) = some (r1, r2) := by first | (rw [hy271023]; with_reducible exact H) | (have H2_ := (Option.bind_some _ _).symm.trans H; rw [hy271023]; with_reducible exact H2_) | (have H2_ := (Option.bind_some _ _).symm.trans H; with_reducible exact H2_) | with_reducible exact H | (rw [hy271023]; exact H) | exact H
                  have Ny271023 := Aside0.mk hy271023
                  clear hy271023
                  have H' := Aside0.mk H
                  clear H
                  obtain ⟨Ao45, co45, eo45⟩ := Kd.N_slice HO_4.out
                  subst eo45
                  have p271015 : 0 ≤ ((ji17) : Int) := of_decide_eq_true (by first | (with_reducible assumption) | assumption)
                  have q271015 : (ji17) < (x4_1.length : Int) := of_decide_eq_true (by first | (with_reducible assumption) | assumption)
                  obtain ⟨ad271015, A271015_0, c271015_0, e271015, hx271015_0, hl271015_0, hi271015_0⟩ := at_L1 (Mem.C_own (Kd.N_reads' HO_4.out).2.2) (ji17) p271015 q271015
                  cases e271015
                  obtain ⟨ce271015, hce271015, hMe271015, hcc271015⟩ := Kd.N_get HO_4.out [] (ji17) p271015 (by first | exact q271015 | exact of_decide_eq_true (by first | (with_reducible assumption) | assumption) | (have e_ := (Kd.N_reads' HO_4.out).1; omega))
                  obtain ⟨ua271015_0, uc271015_0, rfl, ul271015_0, ge271015_0⟩ := Mem.FK_own_open hMe271015
                  have hv271015_0 := hcc271015 0 _ rfl
                  rw [Nat.add_zero, show ((Mem.ownk 2 w.heap.size)).sz = 1 from rfl, Nat.mul_one] at hv271015_0
                  replace hv271015_0 := Option.some.inj (hv271015_0.symm.trans hx271015_0)
                  injection hv271015_0 with hva_ hvn_ hvc_
                  rw [hva_] at ge271015_0
                  rw [hvc_] at ul271015_0
                  have HL271015_0 := Aside0.mk (show Kd.V (Kd.int .i64) 2 _ w.heap.size _ _ (rd_L1 x4_1 (ji17)) from Kd.V_mk ul271015_0 ge271015_0)
                  have HWO271015 := Aside0.mk (Mem.own_at hMe271015 hva_ hvn_ hvc_)
                  clear hva_ hvn_ hvc_ ge271015_0 ul271015_0
                  clear hcc271015 hce271015
                  have HR271015_0 := Aside0.mk hi271015_0
                  have HC271015_0 := Aside0.mk hl271015_0
                  clear hi271015_0 hl271015_0
                  replace p271015 := eq_true p271015
                  replace q271015 := eq_true q271015
                  have p271016 : 0 ≤ ((ji17) : Int) := of_decide_eq_true (by first | (with_reducible assumption) | assumption)
                  have q271016 : (ji17) < (x4_1.length : Int) := of_decide_eq_true (by first | (with_reducible assumption) | assumption)
                  obtain ⟨ad271016, A271016_0, c271016_0, e271016, hx271016_0, hl271016_0, hi271016_0⟩ := at_L1 (Mem.C_own (Kd.N_reads' HO_4.out).2.2) (ji17) p271016 q271016
                  obtain rfl : ad271015 = ad271016 := (by injection e271016)
                  obtain ⟨ce271016, hce271016, hMe271016, hcc271016⟩ := Kd.N_get HO_4.out [] (ji17) p271016 (by first | exact q271016 | exact of_decide_eq_true (by first | (with_reducible assumption) | assumption) | (have e_ := (Kd.N_reads' HO_4.out).1; omega))
                  obtain ⟨ua271016_0, uc271016_0, rfl, ul271016_0, ge271016_0⟩ := Mem.FK_own_open hMe271016
                  have hv271016_0 := hcc271016 0 _ rfl
                  rw [Nat.add_zero, show ((Mem.ownk 2 w.heap.size)).sz = 1 from rfl, Nat.mul_one] at hv271016_0
                  replace hv271016_0 := Option.some.inj (hv271016_0.symm.trans hx271016_0)
                  injection hv271016_0 with hva_ hvn_ hvc_
                  rw [hva_] at ge271016_0
                  rw [hvc_] at ul271016_0
                  have HL271016_0 := Aside0.mk (show Kd.V (Kd.int .i64) 2 _ w.heap.size _ _ (rd_L1 x4_1 (ji17)) from Kd.V_mk ul271016_0 ge271016_0)
                  have HWO271016 := Aside0.mk (Mem.own_at hMe271016 hva_ hvn_ hvc_)
                  clear hva_ hvn_ hvc_ ge271016_0 ul271016_0
                  clear hcc271016 hce271016
                  have HR271016_0 := Aside0.mk hi271016_0
                  have HC271016_0 := Aside0.mk hl271016_0
                  clear hi271016_0 hl271016_0
                  replace p271016 := eq_true p271016
                  replace q271016 := eq_true q271016
                  have ea_ := Option.some.inj (hx271015_0.symm.trans hx271016_0)
                  injection ea_ with ea_ en_ ec_
                  subst ea_
                  subst ec_
                  clear en_
                  have p271017 : 0 ≤ (x25_2 : Int) := of_decide_eq_true (by first | (with_reducible assumption) | assumption)
                  have q271017 : x25_2 < ((rd_L1 x4_1 (ji17)).length : Int) := of_decide_eq_true (by first | (with_reducible assumption) | assumption)
                  obtain ⟨ad271017, e271017, hx271017_0⟩ := Kd.at_int (by repeat (first | (with_reducible exact HR271016_0.out) | (with_reducible refine Kd.C_alloc ?_ _) | (with_reducible refine Kd.C_drewN ?_ _) | (with_reducible refine Kd.C_drew ?_) | exact HR271016_0.out)) x25_2 p271017 q271017
                  cases e271017
                  replace p271017 := eq_true p271017
                  replace q271017 := eq_true q271017
                  have p44 : 0 ≤ (x25_2 : Int) := of_decide_eq_true (by first | (with_reducible assumption) | assumption)
                  have q44 : (x25_2 : Int) < ((x6_2.length : Int) : Int) := of_decide_eq_true (by first | (with_reducible assumption) | assumption)
                  obtain ⟨go44, co44, eo44, gb44, gl44, cl44, HG44⟩ := Kd.R_form HO_6.out (by omega)
                  (first | cases eo44 | (injection eo44 with ea_ en_ ec_; (first | subst ea_ | (injection ea_ with ea_; subst ea_)); subst ec_; clear en_))
                  have GB44 := Aside0.mk gb44
                  have GG44 := Aside0.mk HG44
                  clear gb44 gl44 HG44
                  obtain ⟨hx44_0, hf44_0⟩ := Kd.R_celln 0 HO_6.out (x25_2 : Int) p44 q44
                  replace p44 := eq_true p44
                  replace q44 := eq_true q44
                  have HP46 := Kd.R_putg HO_6.out (x25_2 : Int) (wrap64 (Int.tdiv (wrap64 (0 + (wrap64 ((wrap64 (2 * (wrap64 ((wrap64 (2 * x5_1)) - 1)))) * (rd (rd_L1 x4_1 (ji17)) x25_2))))) (wrap64 (x5_1 + 1))))
                  go_wp2_with (first | ((with_reducible refine gate_store (t := 2) (p := 96) rfl ?_); refine store_event (t := 2) (p := 96) (v := ?vo_w47) (w1 := (wr.setCell ⟨go44, (x25_2 : Int).toNat, none⟩ (.int .i64 (wrap64 (Int.tdiv (wrap64 (0 + (wrap64 ((wrap64 (2 * (wrap64 ((wrap64 (2 * x5_1)) - 1)))) * (rd (rd_L1 x4_1 (ji17)) x25_2))))) (wrap64 (x5_1 + 1))))))) ?hg ?ho ?hn ?hr ?_; (case ho => rfl); (case hg => rfl); (case hn => rfl); (case hr => first | (go_simp; done) | (go_simp; rfl)); intro w47 hw; have hg : wr.grownBy w47 (some go44) := (by rw [hw]; exact HP46.2); have hp_ : Kd.R (Kd.int .i64) 2 w47 w.heap.size (fun k_ => (w.heap.size ≤ k_)) (.slice (some ⟨go44, 0, none⟩) x6_2.length co15) y271023 := (by rw [hw, Ny271023.out]; exact HP46.1); clear HP46; have n0_ := Aside0.mk (Kd.N_afterv (v := (.slice (some ⟨go44, 0, none⟩) x6_2.length co15)) (v1 := (.slice (some ⟨go44, 0, none⟩) x6_2.length co15)) (ok := (fun k_ => (w.heap.size ≤ k_))) (by (with_reducible repeat (first | apply Kd.N_alloc | apply Kd.N_drewN | apply Kd.N_drew)); exact HO_4.out) hg (.inl rfl)); have n1_ := Aside0.mk (hp_); have n2_ := Aside0.mk (Kd.V_afterv (v := (.slice (some ⟨go44, 0, none⟩) x6_2.length co15)) (v1 := (.slice (some ⟨go44, 0, none⟩) x6_2.length co15)) (ok := (fun k_ => (w.heap.size ≤ k_) ∧ some k_ ≠ (.slice (some ad271015) x4_1.length co45 : Value).ownBlock)) (by (with_reducible repeat (first | apply Kd.V_alloc | apply Kd.V_drewN | apply Kd.V_drew)); exact Kd.V_mono HL271015_0.out (fun _ hk => ⟨⟨hk.1.1, hk.2⟩, hk.1.2⟩)) hg (.inl rfl)); have n3_ := Aside0.mk (Kd.V_afterv (v := (.slice (some ⟨go44, 0, none⟩) x6_2.length co15)) (v1 := (.slice (some ⟨go44, 0, none⟩) x6_2.length co15)) (ok := (fun k_ => (w.heap.size ≤ k_) ∧ some k_ ≠ (.slice (some ad271015) x4_1.length co45 : Value).ownBlock)) (by (with_reducible repeat (first | apply Kd.V_alloc | apply Kd.V_drewN | apply Kd.V_drew)); exact Kd.V_mono HL271016_0.out (fun _ hk => ⟨⟨hk.1.1, hk.2⟩, hk.1.2⟩)) hg (.inl rfl)); have n4_ := Aside0.mk ((by rw [hw]; exact below_set (HB.out) GB44.out : Below w.heap.size w w47)); clear HO_4; clear HO_6; clear HL271015_0; clear HL271016_0; clear HB; have HO_4 := n0_; have HO_6 := n1_; have HL271015_0 := n2_; have HL271016_0 := n3_; have HB := n4_; clear n0_ n1_ n2_ n3_ n4_; clear hg hw hp_))
                  (try simp only [← hl6_2])
                  go_roundg k2
                  case measure => have := HK1.out; have := HK2.out; omega
                  case rel => exact ⟨(y271023), (wrap64 (x25_2 + 1)), (by first | rfl | (simp; done) | (simp [*]; done)), H', ⟨by have := HK1.out; have := HK2.out; omega⟩, ⟨by (try simp only [hl6_2]); (with_reducible repeat (first | apply Kd.N_alloc | apply Kd.N_drewN | apply Kd.N_drew)); exact HO_4.out⟩, ⟨by (try simp only [hl6_2]); (with_reducible repeat (first | apply Kd.R_alloc | apply Kd.R_drewN | apply Kd.R_drew)); exact HO_6.out⟩, ⟨by repeat (first | (with_reducible first | exact HB.out | apply below_alloc | apply pw_below_drewN | apply below_drew1) | exact HB.out)⟩⟩
                 ·rw [if_neg c43] at H
                  exact absurd H (by simp)
              ·rw [if_neg c22] at H
               have c22b0 : decide (2 ≤ x5_1) = false := decide_eq_false c22
               clear c22
               by_cases c48 : (wrap64 (x5_1 + 1)) = 0
               ·rw [if_pos c48] at H
                exact absurd H (by simp)
               ·rw [if_neg c48] at H
                have c48b0 : ((wrap64 (x5_1 + 1)) == 0) = false := beq_eq_false_iff_ne.mpr c48
                have c48b1 : ((wrap64 (x5_1 + 1)) != 0) = true := bne_iff_ne.mpr c48
                by_cases c49 : x25_2 < (x6_2.length : Int)
                ·rw [if_pos c49] at H
                 have c49b0 : decide (x25_2 < (x6_2.length : Int)) = true := decide_eq_true c49
                 clear c49
                 obtain ⟨y271024, hy271024⟩ : ∃ y_ : List Int, y_ = (x6_2.set (x25_2 : Int).toNat (wrap64 (Int.tdiv (wrap64 (0 + (wrap64 ((wrap64 (2 * (wrap64 ((wrap64 (2 * x5_1)) - 1)))) * (rd (rd_L1 x4_1 (ji17)) x25_2))))) (wrap64 (x5_1 + 1))))) := ⟨_, rfl⟩
                 replace H : (impl_PolygonNumbers.l1 k2 a0 x4_1 x5_1 y271024 (y271009.length : Int) (wrap64 (x25_2 + 1))) = some (r1, r2) := by first | (rw [hy271024]; with_reducible exact H) | (have H2_ := (Option.bind_some _ _).symm.trans H; rw [hy271024]; with_reducible exact H2_) | (have H2_ := (Option.bind_some _ _).symm.trans H; with_reducible exact H2_) | with_reducible exact H | (rw [hy271024]; exact H) | exact H
                 have Ny271024 := Aside0.mk hy271024
                 clear hy271024
                 have H' := Aside0.mk H
                 clear H
                 obtain ⟨Ao51, co51, eo51⟩ := Kd.N_slice HO_4.out
                 subst eo51
                 have p271015 : 0 ≤ ((ji17) : Int) := of_decide_eq_true (by first | (with_reducible assumption) | assumption)
                 have q271015 : (ji17) < (x4_1.length : Int) := of_decide_eq_true (by first | (with_reducible assumption) | assumption)
                 obtain ⟨ad271015, A271015_0, c271015_0, e271015, hx271015_0, hl271015_0, hi271015_0⟩ := at_L1 (Mem.C_own (Kd.N_reads' HO_4.out).2.2) (ji17) p271015 q271015
                 cases e271015
                 obtain ⟨ce271015, hce271015, hMe271015, hcc271015⟩ := Kd.N_get HO_4.out [] (ji17) p271015 (by first | exact q271015 | exact of_decide_eq_true (by first | (with_reducible assumption) | assumption) | (have e_ := (Kd.N_reads' HO_4.out).1; omega))
                 obtain ⟨ua271015_0, uc271015_0, rfl, ul271015_0, ge271015_0⟩ := Mem.FK_own_open hMe271015
                 have hv271015_0 := hcc271015 0 _ rfl
                 rw [Nat.add_zero, show ((Mem.ownk 2 w.heap.size)).sz = 1 from rfl, Nat.mul_one] at hv271015_0
                 replace hv271015_0 := Option.some.inj (hv271015_0.symm.trans hx271015_0)
                 injection hv271015_0 with hva_ hvn_ hvc_
                 rw [hva_] at ge271015_0
                 rw [hvc_] at ul271015_0
                 have HL271015_0 := Aside0.mk (show Kd.V (Kd.int .i64) 2 _ w.heap.size _ _ (rd_L1 x4_1 (ji17)) from Kd.V_mk ul271015_0 ge271015_0)
                 have HWO271015 := Aside0.mk (Mem.own_at hMe271015 hva_ hvn_ hvc_)
                 clear hva_ hvn_ hvc_ ge271015_0 ul271015_0
                 clear hcc271015 hce271015
                 have HR271015_0 := Aside0.mk hi271015_0
                 have HC271015_0 := Aside0.mk hl271015_0
                 clear hi271015_0 hl271015_0
                 replace p271015 := eq_true p271015
                 replace q271015 := eq_true q271015
                 have p271016 : 0 ≤ ((ji17) : Int) := of_decide_eq_true (by first | (with_reducible assumption) | assumption)
                 have q271016 : (ji17) < (x4_1.length : Int) := of_decide_eq_true (by first | (with_reducible assumption) | assumption)
                 obtain ⟨ad271016, A271016_0, c271016_0, e271016, hx271016_0, hl271016_0, hi271016_0⟩ := at_L1 (Mem.C_own (Kd.N_reads' HO_4.out).2.2) (ji17) p271016 q271016
                 obtain rfl : ad271015 = ad271016 := (by injection e271016)
                 obtain ⟨ce271016, hce271016, hMe271016, hcc271016⟩ := Kd.N_get HO_4.out [] (ji17) p271016 (by first | exact q271016 | exact of_decide_eq_true (by first | (with_reducible assumption) | assumption) | (have e_ := (Kd.N_reads' HO_4.out).1; omega))
                 obtain ⟨ua271016_0, uc271016_0, rfl, ul271016_0, ge271016_0⟩ := Mem.FK_own_open hMe271016
                 have hv271016_0 := hcc271016 0 _ rfl
                 rw [Nat.add_zero, show ((Mem.ownk 2 w.heap.size)).sz = 1 from rfl, Nat.mul_one] at hv271016_0
                 replace hv271016_0 := Option.some.inj (hv271016_0.symm.trans hx271016_0)
                 injection hv271016_0 with hva_ hvn_ hvc_
                 rw [hva_] at ge271016_0
                 rw [hvc_] at ul271016_0
                 have HL271016_0 := Aside0.mk (show Kd.V (Kd.int .i64) 2 _ w.heap.size _ _ (rd_L1 x4_1 (ji17)) from Kd.V_mk ul271016_0 ge271016_0)
                 have HWO271016 := Aside0.mk (Mem.own_at hMe271016 hva_ hvn_ hvc_)
                 clear hva_ hvn_ hvc_ ge271016_0 ul271016_0
                 clear hcc271016 hce271016
                 have HR271016_0 := Aside0.mk hi271016_0
                 have HC271016_0 := Aside0.mk hl271016_0
                 clear hi271016_0 hl271016_0
                 replace p271016 := eq_true p271016
                 replace q271016 := eq_true q271016
                 have ea_ := Option.some.inj (hx271015_0.symm.trans hx271016_0)
                 injection ea_ with ea_ en_ ec_
                 subst ea_
                 subst ec_
                 clear en_
                 have p271017 : 0 ≤ (x25_2 : Int) := of_decide_eq_true (by first | (with_reducible assumption) | assumption)
                 have q271017 : x25_2 < ((rd_L1 x4_1 (ji17)).length : Int) := of_decide_eq_true (by first | (with_reducible assumption) | assumption)
                 obtain ⟨ad271017, e271017, hx271017_0⟩ := Kd.at_int (by repeat (first | (with_reducible exact HR271016_0.out) | (with_reducible refine Kd.C_alloc ?_ _) | (with_reducible refine Kd.C_drewN ?_ _) | (with_reducible refine Kd.C_drew ?_) | exact HR271016_0.out)) x25_2 p271017 q271017
                 cases e271017
                 replace p271017 := eq_true p271017
                 replace q271017 := eq_true q271017
                 have p50 : 0 ≤ (x25_2 : Int) := of_decide_eq_true (by first | (with_reducible assumption) | assumption)
                 have q50 : (x25_2 : Int) < ((x6_2.length : Int) : Int) := of_decide_eq_true (by first | (with_reducible assumption) | assumption)
                 obtain ⟨go50, co50, eo50, gb50, gl50, cl50, HG50⟩ := Kd.R_form HO_6.out (by omega)
                 (first | cases eo50 | (injection eo50 with ea_ en_ ec_; (first | subst ea_ | (injection ea_ with ea_; subst ea_)); subst ec_; clear en_))
                 have GB50 := Aside0.mk gb50
                 have GG50 := Aside0.mk HG50
                 clear gb50 gl50 HG50
                 obtain ⟨hx50_0, hf50_0⟩ := Kd.R_celln 0 HO_6.out (x25_2 : Int) p50 q50
                 replace p50 := eq_true p50
                 replace q50 := eq_true q50
                 have HP52 := Kd.R_putg HO_6.out (x25_2 : Int) (wrap64 (Int.tdiv (wrap64 (0 + (wrap64 ((wrap64 (2 * (wrap64 ((wrap64 (2 * x5_1)) - 1)))) * (rd (rd_L1 x4_1 (ji17)) x25_2))))) (wrap64 (x5_1 + 1))))
                 go_wp2_with (first | ((with_reducible refine gate_store (t := 2) (p := 96) rfl ?_); refine store_event (t := 2) (p := 96) (v := ?vo_w53) (w1 := (wr.setCell ⟨go50, (x25_2 : Int).toNat, none⟩ (.int .i64 (wrap64 (Int.tdiv (wrap64 (0 + (wrap64 ((wrap64 (2 * (wrap64 ((wrap64 (2 * x5_1)) - 1)))) * (rd (rd_L1 x4_1 (ji17)) x25_2))))) (wrap64 (x5_1 + 1))))))) ?hg ?ho ?hn ?hr ?_; (case ho => rfl); (case hg => rfl); (case hn => rfl); (case hr => first | (go_simp; done) | (go_simp; rfl)); intro w53 hw; have hg : wr.grownBy w53 (some go50) := (by rw [hw]; exact HP52.2); have hp_ : Kd.R (Kd.int .i64) 2 w53 w.heap.size (fun k_ => (w.heap.size ≤ k_)) (.slice (some ⟨go50, 0, none⟩) x6_2.length co15) y271024 := (by rw [hw, Ny271024.out]; exact HP52.1); clear HP52; have n0_ := Aside0.mk (Kd.N_afterv (v := (.slice (some ⟨go50, 0, none⟩) x6_2.length co15)) (v1 := (.slice (some ⟨go50, 0, none⟩) x6_2.length co15)) (ok := (fun k_ => (w.heap.size ≤ k_))) (by (with_reducible repeat (first | apply Kd.N_alloc | apply Kd.N_drewN | apply Kd.N_drew)); exact HO_4.out) hg (.inl rfl)); have n1_ := Aside0.mk (hp_); have n2_ := Aside0.mk (Kd.V_afterv (v := (.slice (some ⟨go50, 0, none⟩) x6_2.length co15)) (v1 := (.slice (some ⟨go50, 0, none⟩) x6_2.length co15)) (ok := (fun k_ => (w.heap.size ≤ k_) ∧ some k_ ≠ (.slice (some ad271015) x4_1.length co51 : Value).ownBlock)) (by (with_reducible repeat (first | apply Kd.V_alloc | apply Kd.V_drewN | apply Kd.V_drew)); exact Kd.V_mono HL271015_0.out (fun _ hk => ⟨⟨hk.1.1, hk.2⟩, hk.1.2⟩)) hg (.inl rfl)); have n3_ := Aside0.mk (Kd.V_afterv (v := (.slice (some ⟨go50, 0, none⟩) x6_2.length co15)) (v1 := (.slice (some ⟨go50, 0, none⟩) x6_2.length co15)) (ok := (fun k_ => (w.heap.size ≤ k_) ∧ some k_ ≠ (.slice (some ad271015) x4_1.length co51 : Value).ownBlock)) (by (with_reducible repeat (first | apply Kd.V_alloc | apply Kd.V_drewN | apply Kd.V_drew)); exact Kd.V_mono HL271016_0.out (fun _ hk => ⟨⟨hk.1.1, hk.2⟩, hk.1.2⟩)) hg (.inl rfl)); have n4_ := Aside0.mk ((by rw [hw]; exact below_set (HB.out) GB50.out : Below w.heap.size w w53)); clear HO_4; clear HO_6; clear HL271015_0; clear HL271016_0; clear HB; have HO_4 := n0_; have HO_6 := n1_; have HL271015_0 := n2_; have HL271016_0 := n3_; have HB := n4_; clear n0_ n1_ n2_ n3_ n4_; clear hg hw hp_))
                 (try simp only [← hl6_2])
                 go_roundg k2
                 case measure => have := HK1.out; have := HK2.out; omega
                 case rel => exact ⟨(y271024), (wrap64 (x25_2 + 1)), (by first | rfl | (simp; done) | (simp [*]; done)), H', ⟨by have := HK1.out; have := HK2.out; omega⟩, ⟨by (try simp only [hl6_2]); (with_reducible repeat (first | apply Kd.N_alloc | apply Kd.N_drewN | apply Kd.N_drew)); exact HO_4.out⟩, ⟨by (try simp only [hl6_2]); (with_reducible repeat (first | apply Kd.R_alloc | apply Kd.R_drewN | apply Kd.R_drew)); exact HO_6.out⟩, ⟨by repeat (first | (with_reducible first | exact HB.out | apply below_alloc | apply pw_below_drewN | apply below_drew1) | exact HB.out)⟩⟩
                ·rw [if_neg c49] at H
                 exact absurd H (by simp)
             ·rw [if_neg c21] at H
              exact absurd H (by simp)
            ·rw [if_neg c20] at H
             have c20b0 : decide (x25_2 < ((rd_L1 x4_1 (ji17)).length : Int)) = false := decide_eq_false c20
             clear c20
             by_cases c54 : x5_1 ≥ 2
             ·rw [if_pos c54] at H
              have c54b0 : decide (2 ≤ x5_1) = true := decide_eq_true c54
              clear c54
              by_cases c55 : x25_2 ≥ 1
              ·rw [if_pos c55] at H
               have c55b0 : decide (1 ≤ x25_2) = true := decide_eq_true c55
               clear c55
               obtain ⟨ji56, hji56⟩ : ∃ j_ : Int, (wrap64 (x5_1 - 2)) = j_ := ⟨_, rfl⟩
               replace H : (if 0 ≤ (ji56) then (if (ji56) < (x4_1.length : Int) then (if (wrap64 (x25_2 - 1)) < ((rd_L1 x4_1 (ji56)).length : Int) then (if 0 ≤ (wrap64 (x25_2 - 1)) then (if (wrap64 (x5_1 + 1)) = 0 then (none) else (if 0 ≤ x25_2 then (if x25_2 < (x6_2.length : Int) then (impl_PolygonNumbers.l1 k2 a0 x4_1 x5_1 (x6_2.set (x25_2 : Int).toNat (wrap64 (Int.tdiv (wrap64 (0 + (wrap64 ((wrap64 ((wrap64 ((wrap64 ((wrap64 (2 * x5_1)) - 1)) * (ji17))) * (wrap64 ((wrap64 (2 * x5_1)) - 3)))) * (rd (rd_L1 x4_1 (ji56)) (wrap64 (x25_2 - 1))))))) (wrap64 (x5_1 + 1))))) (y271009.length : Int) (wrap64 (x25_2 + 1))) else (none)) else (none))) else (none)) else (if (wrap64 (x5_1 + 1)) = 0 then (none) else (if 0 ≤ x25_2 then (if x25_2 < (x6_2.length : Int) then (impl_PolygonNumbers.l1 k2 a0 x4_1 x5_1 (x6_2.set (x25_2 : Int).toNat (0 : Int)) (y271009.length : Int) (wrap64 (x25_2 + 1))) else (none)) else (none)))) else (none)) else (none)) = some (r1, r2) := by first | (rw [hji56] at H; exact H) | (simp only [hji56] at H ⊢; exact H)
               have hji56w : (IntKind.i64.wrap (x5_1 - 2)) = ji56 := (i64_w _).trans hji56
               by_cases c57 : 0 ≤ (ji56)
               ·rw [if_pos c57] at H
                have c57b0 : decide (0 ≤ (ji56)) = true := decide_eq_true c57
                clear c57
                by_cases c58 : (ji56) < (x4_1.length : Int)
                ·rw [if_pos c58] at H
                 have c58b0 : decide ((ji56) < (x4_1.length : Int)) = true := decide_eq_true c58
                 clear c58
                 by_cases c59 : (wrap64 (x25_2 - 1)) < ((rd_L1 x4_1 (ji56)).length : Int)
                 ·rw [if_pos c59] at H
                  have c59b0 : decide ((wrap64 (x25_2 - 1)) < ((rd_L1 x4_1 (ji56)).length : Int)) = true := decide_eq_true c59
                  clear c59
                  obtain ⟨ji60, hji60⟩ : ∃ j_ : Int, (wrap64 (x25_2 - 1)) = j_ := ⟨_, rfl⟩
                  replace H : (if 0 ≤ (ji60) then (if (wrap64 (x5_1 + 1)) = 0 then (none) else (if 0 ≤ x25_2 then (if x25_2 < (x6_2.length : Int) then (impl_PolygonNumbers.l1 k2 a0 x4_1 x5_1 (x6_2.set (x25_2 : Int).toNat (wrap64 (Int.tdiv (wrap64 (0 + (wrap64 ((wrap64 ((wrap64 ((wrap64 ((wrap64 (2 * x5_1)) - 1)) * (ji17))) * (wrap64 ((wrap64 (2 * x5_1)) - 3)))) * (rd (rd_L1 x4_1 (ji56)) (ji60)))))) (wrap64 (x5_1 + 1))))) (y271009.length : Int) (wrap64 (x25_2 + 1))) else (none)) else (none))) else (none)) = some (r1, r2) := by first | (rw [hji60] at H; exact H) | (simp only [hji60] at H ⊢; exact H)
                  (try rw [hji60] at c59b0)
                  have hji60w : (IntKind.i64.wrap (x25_2 - 1)) = ji60 := (i64_w _).trans hji60
                  by_cases c61 : 0 ≤ (ji60)
                  ·rw [if_pos c61] at H
                   have c61b0 : decide (0 ≤ (ji60)) = true := decide_eq_true c61
                   clear c61
                   by_cases c62 : (wrap64 (x5_1 + 1)) = 0
                   ·rw [if_pos c62] at H
                    exact absurd H (by simp)
                   ·rw [if_neg c62] at H
                    have c62b0 : ((wrap64 (x5_1 + 1)) == 0) = false := beq_eq_false_iff_ne.mpr c62
                    have c62b1 : ((wrap64 (x5_1 + 1)) != 0) = true := bne_iff_ne.mpr c62
                    by_cases c63 : 0 ≤ x25_2
                    ·rw [if_pos c63] at H
                     have c63b0 : decide (0 ≤ x25_2) = true := decide_eq_true c63
                     clear c63
                     by_cases c64 : x25_2 < (x6_2.length : Int)
                     ·rw [if_pos c64] at H
                      have c64b0 : decide (x25_2 < (x6_2.length : Int)) = true := decide_eq_true c64
                      clear c64
                      obtain ⟨y271028, hy271028⟩ : ∃ y_ : List Int, y_ = (x6_2.set (x25_2 : Int).toNat (wrap64 (Int.tdiv (wrap64 (0 + (wrap64 ((wrap64 ((wrap64 ((wrap64 ((wrap64 (2 * x5_1)) - 1)) * (ji17))) * (wrap64 ((wrap64 (2 * x5_1)) - 3)))) * (rd (rd_L1 x4_1 (ji56)) (ji60)))))) (wrap64 (x5_1 + 1))))) := ⟨_, rfl⟩
                      replace H : (impl_PolygonNumbers.l1 k2 a0 x4_1 x5_1 y271028 (y271009.length : Int) (wrap64 (x25_2 + 1))) = some (r1, r2) := by first | (rw [hy271028]; with_reducible exact H) | (have H2_ := (Option.bind_some _ _).symm.trans H; rw [hy271028]; with_reducible exact H2_) | (have H2_ := (Option.bind_some _ _).symm.trans H; with_reducible exact H2_) | with_reducible exact H | (rw [hy271028]; exact H) | exact H
                      have Ny271028 := Aside0.mk hy271028
                      clear hy271028
                      have H' := Aside0.mk H
                      clear H
                      obtain ⟨Ao66, co66, eo66⟩ := Kd.N_slice HO_4.out
                      subst eo66
                      have p271015 : 0 ≤ ((ji17) : Int) := of_decide_eq_true (by first | (with_reducible assumption) | assumption)
                      have q271015 : (ji17) < (x4_1.length : Int) := of_decide_eq_true (by first | (with_reducible assumption) | assumption)
                      obtain ⟨ad271015, A271015_0, c271015_0, e271015, hx271015_0, hl271015_0, hi271015_0⟩ := at_L1 (Mem.C_own (Kd.N_reads' HO_4.out).2.2) (ji17) p271015 q271015
                      cases e271015
                      obtain ⟨ce271015, hce271015, hMe271015, hcc271015⟩ := Kd.N_get HO_4.out [] (ji17) p271015 (by first | exact q271015 | exact of_decide_eq_true (by first | (with_reducible assumption) | assumption) | (have e_ := (Kd.N_reads' HO_4.out).1; omega))
                      obtain ⟨ua271015_0, uc271015_0, rfl, ul271015_0, ge271015_0⟩ := Mem.FK_own_open hMe271015
                      have hv271015_0 := hcc271015 0 _ rfl
                      rw [Nat.add_zero, show ((Mem.ownk 2 w.heap.size)).sz = 1 from rfl, Nat.mul_one] at hv271015_0
                      replace hv271015_0 := Option.some.inj (hv271015_0.symm.trans hx271015_0)
                      injection hv271015_0 with hva_ hvn_ hvc_
                      rw [hva_] at ge271015_0
                      rw [hvc_] at ul271015_0
                      have HL271015_0 := Aside0.mk (show Kd.V (Kd.int .i64) 2 _ w.heap.size _ _ (rd_L1 x4_1 (ji17)) from Kd.V_mk ul271015_0 ge271015_0)
                      have HWO271015 := Aside0.mk (Mem.own_at hMe271015 hva_ hvn_ hvc_)
                      clear hva_ hvn_ hvc_ ge271015_0 ul271015_0
                      clear hcc271015 hce271015
                      have HR271015_0 := Aside0.mk hi271015_0
                      have HC271015_0 := Aside0.mk hl271015_0
                      clear hi271015_0 hl271015_0
                      replace p271015 := eq_true p271015
                      replace q271015 := eq_true q271015
                      have p271025 : 0 ≤ ((ji56) : Int) := of_decide_eq_true (by first | (with_reducible assumption) | assumption)
                      have q271025 : (ji56) < (x4_1.length : Int) := of_decide_eq_true (by first | (with_reducible assumption) | assumption)
                      obtain ⟨ad271025, A271025_0, c271025_0, e271025, hx271025_0, hl271025_0, hi271025_0⟩ := at_L1 (Mem.C_own (Kd.N_reads' HO_4.out).2.2) (ji56) p271025 q271025
                      obtain rfl : ad271015 = ad271025 := (by injection e271025)
                      obtain ⟨ce271025, hce271025, hMe271025, hcc271025⟩ := Kd.N_get HO_4.out [] (ji56) p271025 (by first | exact q271025 | exact of_decide_eq_true (by first | (with_reducible assumption) | assumption) | (have e_ := (Kd.N_reads' HO_4.out).1; omega))
                      obtain ⟨ua271025_0, uc271025_0, rfl, ul271025_0, ge271025_0⟩ := Mem.FK_own_open hMe271025
                      have hv271025_0 := hcc271025 0 _ rfl
                      rw [Nat.add_zero, show ((Mem.ownk 2 w.heap.size)).sz = 1 from rfl, Nat.mul_one] at hv271025_0
                      replace hv271025_0 := Option.some.inj (hv271025_0.symm.trans hx271025_0)
                      injection hv271025_0 with hva_ hvn_ hvc_
                      rw [hva_] at ge271025_0
                      rw [hvc_] at ul271025_0
                      have HL271025_0 := Aside0.mk (show Kd.V (Kd.int .i64) 2 _ w.heap.size _ _ (rd_L1 x4_1 (ji56)) from Kd.V_mk ul271025_0 ge271025_0)
                      have HWO271025 := Aside0.mk (Mem.own_at hMe271025 hva_ hvn_ hvc_)
                      clear hva_ hvn_ hvc_ ge271025_0 ul271025_0
                      clear hcc271025 hce271025
                      have HR271025_0 := Aside0.mk hi271025_0
                      have HC271025_0 := Aside0.mk hl271025_0
                      clear hi271025_0 hl271025_0
                      replace p271025 := eq_true p271025
                      replace q271025 := eq_true q271025
                      have p271026 : 0 ≤ ((ji56) : Int) := of_decide_eq_true (by first | (with_reducible assumption) | assumption)
                      have q271026 : (ji56) < (x4_1.length : Int) := of_decide_eq_true (by first | (with_reducible assumption) | assumption)
                      obtain ⟨ad271026, A271026_0, c271026_0, e271026, hx271026_0, hl271026_0, hi271026_0⟩ := at_L1 (Mem.C_own (Kd.N_reads' HO_4.out).2.2) (ji56) p271026 q271026
                      obtain rfl : ad271015 = ad271026 := (by injection e271026)
                      obtain ⟨ce271026, hce271026, hMe271026, hcc271026⟩ := Kd.N_get HO_4.out [] (ji56) p271026 (by first | exact q271026 | exact of_decide_eq_true (by first | (with_reducible assumption) | assumption) | (have e_ := (Kd.N_reads' HO_4.out).1; omega))
                      obtain ⟨ua271026_0, uc271026_0, rfl, ul271026_0, ge271026_0⟩ := Mem.FK_own_open hMe271026
                      have hv271026_0 := hcc271026 0 _ rfl
                      rw [Nat.add_zero, show ((Mem.ownk 2 w.heap.size)).sz = 1 from rfl, Nat.mul_one] at hv271026_0
                      replace hv271026_0 := Option.some.inj (hv271026_0.symm.trans hx271026_0)
                      injection hv271026_0 with hva_ hvn_ hvc_
                      rw [hva_] at ge271026_0
                      rw [hvc_] at ul271026_0
                      have HL271026_0 := Aside0.mk (show Kd.V (Kd.int .i64) 2 _ w.heap.size _ _ (rd_L1 x4_1 (ji56)) from Kd.V_mk ul271026_0 ge271026_0)
                      have HWO271026 := Aside0.mk (Mem.own_at hMe271026 hva_ hvn_ hvc_)
                      clear hva_ hvn_ hvc_ ge271026_0 ul271026_0
                      clear hcc271026 hce271026
                      have HR271026_0 := Aside0.mk hi271026_0
                      have HC271026_0 := Aside0.mk hl271026_0
                      clear hi271026_0 hl271026_0
                      replace p271026 := eq_true p271026
                      replace q271026 := eq_true q271026
                      have ea_ := Option.some.inj (hx271025_0.symm.trans hx271026_0)
                      injection ea_ with ea_ en_ ec_
                      subst ea_
                      subst ec_
                      clear en_
                      have p271027 : 0 ≤ ((ji60) : Int) := of_decide_eq_true (by first | (with_reducible assumption) | assumption)
                      have q271027 : (ji60) < ((rd_L1 x4_1 (ji56)).length : Int) := of_decide_eq_true (by first | (with_reducible assumption) | assumption)
                      obtain ⟨ad271027, e271027, hx271027_0⟩ := Kd.at_int (by repeat (first | (with_reducible exact HR271026_0.out) | (with_reducible refine Kd.C_alloc ?_ _) | (with_reducible refine Kd.C_drewN ?_ _) | (with_reducible refine Kd.C_drew ?_) | exact HR271026_0.out)) (ji60) p271027 q271027
                      cases e271027
                      replace p271027 := eq_true p271027
                      replace q271027 := eq_true q271027
                      have p65 : 0 ≤ (x25_2 : Int) := of_decide_eq_true (by first | (with_reducible assumption) | assumption)
                      have q65 : (x25_2 : Int) < ((x6_2.length : Int) : Int) := of_decide_eq_true (by first | (with_reducible assumption) | assumption)
                      obtain ⟨go65, co65, eo65, gb65, gl65, cl65, HG65⟩ := Kd.R_form HO_6.out (by omega)
                      (first | cases eo65 | (injection eo65 with ea_ en_ ec_; (first | subst ea_ | (injection ea_ with ea_; subst ea_)); subst ec_; clear en_))
                      have GB65 := Aside0.mk gb65
                      have GG65 := Aside0.mk HG65
                      clear gb65 gl65 HG65
                      obtain ⟨hx65_0, hf65_0⟩ := Kd.R_celln 0 HO_6.out (x25_2 : Int) p65 q65
                      replace p65 := eq_true p65
                      replace q65 := eq_true q65
                      have HP67 := Kd.R_putg HO_6.out (x25_2 : Int) (wrap64 (Int.tdiv (wrap64 (0 + (wrap64 ((wrap64 ((wrap64 ((wrap64 ((wrap64 (2 * x5_1)) - 1)) * (ji17))) * (wrap64 ((wrap64 (2 * x5_1)) - 3)))) * (rd (rd_L1 x4_1 (ji56)) (ji60)))))) (wrap64 (x5_1 + 1))))
                      go_wp2_with (first | ((with_reducible refine gate_store (t := 2) (p := 96) rfl ?_); refine store_event (t := 2) (p := 96) (v := ?vo_w68) (w1 := (wr.setCell ⟨go65, (x25_2 : Int).toNat, none⟩ (.int .i64 (wrap64 (Int.tdiv (wrap64 (0 + (wrap64 ((wrap64 ((wrap64 ((wrap64 ((wrap64 (2 * x5_1)) - 1)) * (ji17))) * (wrap64 ((wrap64 (2 * x5_1)) - 3)))) * (rd (rd_L1 x4_1 (ji56)) (ji60)))))) (wrap64 (x5_1 + 1))))))) ?hg ?ho ?hn ?hr ?_; (case ho => rfl); (case hg => rfl); (case hn => rfl); (case hr => first | (go_simp; done) | (go_simp; rfl)); intro w68 hw; have hg : wr.grownBy w68 (some go65) := (by rw [hw]; exact HP67.2); have hp_ : Kd.R (Kd.int .i64) 2 w68 w.heap.size (fun k_ => (w.heap.size ≤ k_)) (.slice (some ⟨go65, 0, none⟩) x6_2.length co15) y271028 := (by rw [hw, Ny271028.out]; exact HP67.1); clear HP67; have n0_ := Aside0.mk (Kd.N_afterv (v := (.slice (some ⟨go65, 0, none⟩) x6_2.length co15)) (v1 := (.slice (some ⟨go65, 0, none⟩) x6_2.length co15)) (ok := (fun k_ => (w.heap.size ≤ k_))) (by (with_reducible repeat (first | apply Kd.N_alloc | apply Kd.N_drewN | apply Kd.N_drew)); exact HO_4.out) hg (.inl rfl)); have n1_ := Aside0.mk (hp_); have n2_ := Aside0.mk (Kd.V_afterv (v := (.slice (some ⟨go65, 0, none⟩) x6_2.length co15)) (v1 := (.slice (some ⟨go65, 0, none⟩) x6_2.length co15)) (ok := (fun k_ => (w.heap.size ≤ k_) ∧ some k_ ≠ (.slice (some ad271015) x4_1.length co66 : Value).ownBlock)) (by (with_reducible repeat (first | apply Kd.V_alloc | apply Kd.V_drewN | apply Kd.V_drew)); exact Kd.V_mono HL271015_0.out (fun _ hk => ⟨⟨hk.1.1, hk.2⟩, hk.1.2⟩)) hg (.inl rfl)); have n3_ := Aside0.mk (Kd.V_afterv (v := (.slice (some ⟨go65, 0, none⟩) x6_2.length co15)) (v1 := (.slice (some ⟨go65, 0, none⟩) x6_2.length co15)) (ok := (fun k_ => (w.heap.size ≤ k_) ∧ some k_ ≠ (.slice (some ad271015) x4_1.length co66 : Value).ownBlock)) (by (with_reducible repeat (first | apply Kd.V_alloc | apply Kd.V_drewN | apply Kd.V_drew)); exact Kd.V_mono HL271025_0.out (fun _ hk => ⟨⟨hk.1.1, hk.2⟩, hk.1.2⟩)) hg (.inl rfl)); have n4_ := Aside0.mk (Kd.V_afterv (v := (.slice (some ⟨go65, 0, none⟩) x6_2.length co15)) (v1 := (.slice (some ⟨go65, 0, none⟩) x6_2.length co15)) (ok := (fun k_ => (w.heap.size ≤ k_) ∧ some k_ ≠ (.slice (some ad271015) x4_1.length co66 : Value).ownBlock)) (by (with_reducible repeat (first | apply Kd.V_alloc | apply Kd.V_drewN | apply Kd.V_drew)); exact Kd.V_mono HL271026_0.out (fun _ hk => ⟨⟨hk.1.1, hk.2⟩, hk.1.2⟩)) hg (.inl rfl)); have n5_ := Aside0.mk ((by rw [hw]; exact below_set (HB.out) GB65.out : Below w.heap.size w w68)); clear HO_4; clear HO_6; clear HL271015_0; clear HL271025_0; clear HL271026_0; clear HB; have HO_4 := n0_; have HO_6 := n1_; have HL271015_0 := n2_; have HL271025_0 := n3_; have HL271026_0 := n4_; have HB := n5_; clear n0_ n1_ n2_ n3_ n4_ n5_; clear hg hw hp_))
                      (try simp only [← hl6_2])
                      go_roundg k2
                      case measure => have := HK1.out; have := HK2.out; omega
                      case rel => exact ⟨(y271028), (wrap64 (x25_2 + 1)), (by first | rfl | (simp; done) | (simp [*]; done)), H', ⟨by have := HK1.out; have := HK2.out; omega⟩, ⟨by (try simp only [hl6_2]); (with_reducible repeat (first | apply Kd.N_alloc | apply Kd.N_drewN | apply Kd.N_drew)); exact HO_4.out⟩, ⟨by (try simp only [hl6_2]); (with_reducible repeat (first | apply Kd.R_alloc | apply Kd.R_drewN | apply Kd.R_drew)); exact HO_6.out⟩, ⟨by repeat (first | (with_reducible first | exact HB.out | apply below_alloc | apply pw_below_drewN | apply below_drew1) | exact HB.out)⟩⟩
                     ·rw [if_neg c64] at H
                      exact absurd H (by simp)
                    ·rw [if_neg c63] at H
                     exact absurd H (by simp)
                  ·rw [if_neg c61] at H
                   exact absurd H (by simp)
                 ·rw [if_neg c59] at H
                  have c59b0 : decide ((wrap64 (x25_2 - 1)) < ((rd_L1 x4_1 (ji56)).length : Int)) = false := decide_eq_false c59
                  clear c59
                  by_cases c69 : (wrap64 (x5_1 + 1)) = 0
                  ·rw [if_pos c69] at H
                   exact absurd H (by simp)
                  ·rw [if_neg c69] at H
                   have c69b0 : ((wrap64 (x5_1 + 1)) == 0) = false := beq_eq_false_iff_ne.mpr c69
                   have c69b1 : ((wrap64 (x5_1 + 1)) != 0) = true := bne_iff_ne.mpr c69
                   by_cases c70 : 0 ≤ x25_2
                   ·rw [if_pos c70] at H
                    have c70b0 : decide (0 ≤ x25_2) = true := decide_eq_true c70
                    clear c70
                    by_cases c71 : x25_2 < (x6_2.length : Int)
                    ·rw [if_pos c71] at H
                     have c71b0 : decide (x25_2 < (x6_2.length : Int)) = true := decide_eq_true c71
                     clear c71
                     obtain ⟨y271029, hy271029⟩ : ∃ y_ : List Int, y_ = (x6_2.set (x25_2 : Int).toNat (0 : Int)) := ⟨_, rfl⟩
                     replace H : (impl_PolygonNumbers.l1 k2 a0 x4_1 x5_1 y271029 (y271009.length : Int) (wrap64 (x25_2 + 1))) = some (r1, r2) := by first | (rw [hy271029]; with_reducible exact H) | (have H2_ := (Option.bind_some _ _).symm.trans H; rw [hy271029]; with_reducible exact H2_) | (have H2_ := (Option.bind_some _ _).symm.trans H; with_reducible exact H2_) | with_reducible exact H | (rw [hy271029]; exact H) | exact H
                     have Ny271029 := Aside0.mk hy271029
                     clear hy271029
                     have H' := Aside0.mk H
                     clear H
                     obtain ⟨Ao73, co73, eo73⟩ := Kd.N_slice HO_4.out
                     subst eo73
                     have p271015 : 0 ≤ ((ji17) : Int) := of_decide_eq_true (by first | (with_reducible assumption) | assumption)
                     have q271015 : (ji17) < (x4_1.length : Int) := of_decide_eq_true (by first | (with_reducible assumption) | assumption)
                     obtain ⟨ad271015, A271015_0, c271015_0, e271015, hx271015_0, hl271015_0, hi271015_0⟩ := at_L1 (Mem.C_own (Kd.N_reads' HO_4.out).2.2) (ji17) p271015 q271015
                     cases e271015
                     obtain ⟨ce271015, hce271015, hMe271015, hcc271015⟩ := Kd.N_get HO_4.out [] (ji17) p271015 (by first | exact q271015 | exact of_decide_eq_true (by first | (with_reducible assumption) | assumption) | (have e_ := (Kd.N_reads' HO_4.out).1; omega))
                     obtain ⟨ua271015_0, uc271015_0, rfl, ul271015_0, ge271015_0⟩ := Mem.FK_own_open hMe271015
                     have hv271015_0 := hcc271015 0 _ rfl
                     rw [Nat.add_zero, show ((Mem.ownk 2 w.heap.size)).sz = 1 from rfl, Nat.mul_one] at hv271015_0
                     replace hv271015_0 := Option.some.inj (hv271015_0.symm.trans hx271015_0)
                     injection hv271015_0 with hva_ hvn_ hvc_
                     rw [hva_] at ge271015_0
                     rw [hvc_] at ul271015_0
                     have HL271015_0 := Aside0.mk (show Kd.V (Kd.int .i64) 2 _ w.heap.size _ _ (rd_L1 x4_1 (ji17)) from Kd.V_mk ul271015_0 ge271015_0)
                     have HWO271015 := Aside0.mk (Mem.own_at hMe271015 hva_ hvn_ hvc_)
                     clear hva_ hvn_ hvc_ ge271015_0 ul271015_0
                     clear hcc271015 hce271015
                     have HR271015_0 := Aside0.mk hi271015_0
                     have HC271015_0 := Aside0.mk hl271015_0
                     clear hi271015_0 hl271015_0
                     replace p271015 := eq_true p271015
                     replace q271015 := eq_true q271015
                     have p271025 : 0 ≤ ((ji56) : Int) := of_decide_eq_true (by first | (with_reducible assumption) | assumption)
                     have q271025 : (ji56) < (x4_1.length : Int) := of_decide_eq_true (by first | (with_reducible assumption) | assumption)
                     obtain ⟨ad271025, A271025_0, c271025_0, e271025, hx271025_0, hl271025_0, hi271025_0⟩ := at_L1 (Mem.C_own (Kd.N_reads' HO_4.out).2.2) (ji56) p271025 q271025
                     obtain rfl : ad271015 = ad271025 := (by injection e271025)
                     obtain ⟨ce271025, hce271025, hMe271025, hcc271025⟩ := Kd.N_get HO_4.out [] (ji56) p271025 (by first | exact q271025 | exact of_decide_eq_true (by first | (with_reducible assumption) | assumption) | (have e_ := (Kd.N_reads' HO_4.out).1; omega))
                     obtain ⟨ua271025_0, uc271025_0, rfl, ul271025_0, ge271025_0⟩ := Mem.FK_own_open hMe271025
                     have hv271025_0 := hcc271025 0 _ rfl
                     rw [Nat.add_zero, show ((Mem.ownk 2 w.heap.size)).sz = 1 from rfl, Nat.mul_one] at hv271025_0
                     replace hv271025_0 := Option.some.inj (hv271025_0.symm.trans hx271025_0)
                     injection hv271025_0 with hva_ hvn_ hvc_
                     rw [hva_] at ge271025_0
                     rw [hvc_] at ul271025_0
                     have HL271025_0 := Aside0.mk (show Kd.V (Kd.int .i64) 2 _ w.heap.size _ _ (rd_L1 x4_1 (ji56)) from Kd.V_mk ul271025_0 ge271025_0)
                     have HWO271025 := Aside0.mk (Mem.own_at hMe271025 hva_ hvn_ hvc_)
                     clear hva_ hvn_ hvc_ ge271025_0 ul271025_0
                     clear hcc271025 hce271025
                     have HR271025_0 := Aside0.mk hi271025_0
                     have HC271025_0 := Aside0.mk hl271025_0
                     clear hi271025_0 hl271025_0
                     replace p271025 := eq_true p271025
                     replace q271025 := eq_true q271025
                     have p72 : 0 ≤ (x25_2 : Int) := of_decide_eq_true (by first | (with_reducible assumption) | assumption)
                     have q72 : (x25_2 : Int) < ((x6_2.length : Int) : Int) := of_decide_eq_true (by first | (with_reducible assumption) | assumption)
                     obtain ⟨go72, co72, eo72, gb72, gl72, cl72, HG72⟩ := Kd.R_form HO_6.out (by omega)
                     (first | cases eo72 | (injection eo72 with ea_ en_ ec_; (first | subst ea_ | (injection ea_ with ea_; subst ea_)); subst ec_; clear en_))
                     have GB72 := Aside0.mk gb72
                     have GG72 := Aside0.mk HG72
                     clear gb72 gl72 HG72
                     obtain ⟨hx72_0, hf72_0⟩ := Kd.R_celln 0 HO_6.out (x25_2 : Int) p72 q72
                     replace p72 := eq_true p72
                     replace q72 := eq_true q72
                     have HP74 := Kd.R_putg HO_6.out (x25_2 : Int) (0 : Int)
                     go_wp2_with (first | ((with_reducible refine gate_store (t := 2) (p := 96) rfl ?_); refine store_event (t := 2) (p := 96) (v := ?vo_w75) (w1 := (wr.setCell ⟨go72, (x25_2 : Int).toNat, none⟩ (.int .i64 (0 : Int)))) ?hg ?ho ?hn ?hr ?_; (case ho => rfl); (case hg => rfl); (case hn => rfl); (case hr => first | (go_simp; done) | (go_simp; rfl)); intro w75 hw; have hg : wr.grownBy w75 (some go72) := (by rw [hw]; exact HP74.2); have hp_ : Kd.R (Kd.int .i64) 2 w75 w.heap.size (fun k_ => (w.heap.size ≤ k_)) (.slice (some ⟨go72, 0, none⟩) x6_2.length co15) y271029 := (by rw [hw, Ny271029.out]; exact HP74.1); clear HP74; have n0_ := Aside0.mk (Kd.N_afterv (v := (.slice (some ⟨go72, 0, none⟩) x6_2.length co15)) (v1 := (.slice (some ⟨go72, 0, none⟩) x6_2.length co15)) (ok := (fun k_ => (w.heap.size ≤ k_))) (by (with_reducible repeat (first | apply Kd.N_alloc | apply Kd.N_drewN | apply Kd.N_drew)); exact HO_4.out) hg (.inl rfl)); have n1_ := Aside0.mk (hp_); have n2_ := Aside0.mk (Kd.V_afterv (v := (.slice (some ⟨go72, 0, none⟩) x6_2.length co15)) (v1 := (.slice (some ⟨go72, 0, none⟩) x6_2.length co15)) (ok := (fun k_ => (w.heap.size ≤ k_) ∧ some k_ ≠ (.slice (some ad271015) x4_1.length co73 : Value).ownBlock)) (by (with_reducible repeat (first | apply Kd.V_alloc | apply Kd.V_drewN | apply Kd.V_drew)); exact Kd.V_mono HL271015_0.out (fun _ hk => ⟨⟨hk.1.1, hk.2⟩, hk.1.2⟩)) hg (.inl rfl)); have n3_ := Aside0.mk (Kd.V_afterv (v := (.slice (some ⟨go72, 0, none⟩) x6_2.length co15)) (v1 := (.slice (some ⟨go72, 0, none⟩) x6_2.length co15)) (ok := (fun k_ => (w.heap.size ≤ k_) ∧ some k_ ≠ (.slice (some ad271015) x4_1.length co73 : Value).ownBlock)) (by (with_reducible repeat (first | apply Kd.V_alloc | apply Kd.V_drewN | apply Kd.V_drew)); exact Kd.V_mono HL271025_0.out (fun _ hk => ⟨⟨hk.1.1, hk.2⟩, hk.1.2⟩)) hg (.inl rfl)); have n4_ := Aside0.mk ((by rw [hw]; exact below_set (HB.out) GB72.out : Below w.heap.size w w75)); clear HO_4; clear HO_6; clear HL271015_0; clear HL271025_0; clear HB; have HO_4 := n0_; have HO_6 := n1_; have HL271015_0 := n2_; have HL271025_0 := n3_; have HB := n4_; clear n0_ n1_ n2_ n3_ n4_; clear hg hw hp_))
                     (try simp only [← hl6_2])
                     go_roundg k2
                     case measure => have := HK1.out; have := HK2.out; omega
                     case rel => exact ⟨(y271029), (wrap64 (x25_2 + 1)), (by first | rfl | (simp; done) | (simp [*]; done)), H', ⟨by have := HK1.out; have := HK2.out; omega⟩, ⟨by (try simp only [hl6_2]); (with_reducible repeat (first | apply Kd.N_alloc | apply Kd.N_drewN | apply Kd.N_drew)); exact HO_4.out⟩, ⟨by (try simp only [hl6_2]); (with_reducible repeat (first | apply Kd.R_alloc | apply Kd.R_drewN | apply Kd.R_drew)); exact HO_6.out⟩, ⟨by repeat (first | (with_reducible first | exact HB.out | apply below_alloc | apply pw_below_drewN | apply below_drew1) | exact HB.out)⟩⟩
                    ·rw [if_neg c71] at H
                     exact absurd H (by simp)
                   ·rw [if_neg c70] at H
                    exact absurd H (by simp)
                ·rw [if_neg c58] at H
                 exact absurd H (by simp)
               ·rw [if_neg c57] at H
                exact absurd H (by simp)
              ·rw [if_neg c55] at H
               have c55b0 : decide (1 ≤ x25_2) = false := decide_eq_false c55
               clear c55
               by_cases c76 : (wrap64 (x5_1 + 1)) = 0
               ·rw [if_pos c76] at H
                exact absurd H (by simp)
               ·rw [if_neg c76] at H
                have c76b0 : ((wrap64 (x5_1 + 1)) == 0) = false := beq_eq_false_iff_ne.mpr c76
                have c76b1 : ((wrap64 (x5_1 + 1)) != 0) = true := bne_iff_ne.mpr c76
                by_cases c77 : 0 ≤ x25_2
                ·rw [if_pos c77] at H
                 have c77b0 : decide (0 ≤ x25_2) = true := decide_eq_true c77
                 clear c77
                 by_cases c78 : x25_2 < (x6_2.length : Int)
                 ·rw [if_pos c78] at H
                  have c78b0 : decide (x25_2 < (x6_2.length : Int)) = true := decide_eq_true c78
                  clear c78
                  obtain ⟨y271030, hy271030⟩ : ∃ y_ : List Int, y_ = (x6_2.set (x25_2 : Int).toNat (0 : Int)) := ⟨_, rfl⟩
                  replace H : (impl_PolygonNumbers.l1 k2 a0 x4_1 x5_1 y271030 (y271009.length : Int) (wrap64 (x25_2 + 1))) = some (r1, r2) := by first | (rw [hy271030]; with_reducible exact H) | (have H2_ := (Option.bind_some _ _).symm.trans H; rw [hy271030]; with_reducible exact H2_) | (have H2_ := (Option.bind_some _ _).symm.trans H; with_reducible exact H2_) | with_reducible exact H | (rw [hy271030]; exact H) | exact H
                  have Ny271030 := Aside0.mk hy271030
                  clear hy271030
                  have H' := Aside0.mk H
                  clear H
                  obtain ⟨Ao80, co80, eo80⟩ := Kd.N_slice HO_4.out
                  subst eo80
                  have p271015 : 0 ≤ ((ji17) : Int) := of_decide_eq_true (by first | (with_reducible assumption) | assumption)
                  have q271015 : (ji17) < (x4_1.length : Int) := of_decide_eq_true (by first | (with_reducible assumption) | assumption)
                  obtain ⟨ad271015, A271015_0, c271015_0, e271015, hx271015_0, hl271015_0, hi271015_0⟩ := at_L1 (Mem.C_own (Kd.N_reads' HO_4.out).2.2) (ji17) p271015 q271015
                  cases e271015
                  obtain ⟨ce271015, hce271015, hMe271015, hcc271015⟩ := Kd.N_get HO_4.out [] (ji17) p271015 (by first | exact q271015 | exact of_decide_eq_true (by first | (with_reducible assumption) | assumption) | (have e_ := (Kd.N_reads' HO_4.out).1; omega))
                  obtain ⟨ua271015_0, uc271015_0, rfl, ul271015_0, ge271015_0⟩ := Mem.FK_own_open hMe271015
                  have hv271015_0 := hcc271015 0 _ rfl
                  rw [Nat.add_zero, show ((Mem.ownk 2 w.heap.size)).sz = 1 from rfl, Nat.mul_one] at hv271015_0
                  replace hv271015_0 := Option.some.inj (hv271015_0.symm.trans hx271015_0)
                  injection hv271015_0 with hva_ hvn_ hvc_
                  rw [hva_] at ge271015_0
                  rw [hvc_] at ul271015_0
                  have HL271015_0 := Aside0.mk (show Kd.V (Kd.int .i64) 2 _ w.heap.size _ _ (rd_L1 x4_1 (ji17)) from Kd.V_mk ul271015_0 ge271015_0)
                  have HWO271015 := Aside0.mk (Mem.own_at hMe271015 hva_ hvn_ hvc_)
                  clear hva_ hvn_ hvc_ ge271015_0 ul271015_0
                  clear hcc271015 hce271015
                  have HR271015_0 := Aside0.mk hi271015_0
                  have HC271015_0 := Aside0.mk hl271015_0
                  clear hi271015_0 hl271015_0
                  replace p271015 := eq_true p271015
                  replace q271015 := eq_true q271015
                  have p79 : 0 ≤ (x25_2 : Int) := of_decide_eq_true (by first | (with_reducible assumption) | assumption)
                  have q79 : (x25_2 : Int) < ((x6_2.length : Int) : Int) := of_decide_eq_true (by first | (with_reducible assumption) | assumption)
                  obtain ⟨go79, co79, eo79, gb79, gl79, cl79, HG79⟩ := Kd.R_form HO_6.out (by omega)
                  (first | cases eo79 | (injection eo79 with ea_ en_ ec_; (first | subst ea_ | (injection ea_ with ea_; subst ea_)); subst ec_; clear en_))
                  have GB79 := Aside0.mk gb79
                  have GG79 := Aside0.mk HG79
                  clear gb79 gl79 HG79
                  obtain ⟨hx79_0, hf79_0⟩ := Kd.R_celln 0 HO_6.out (x25_2 : Int) p79 q79
                  replace p79 := eq_true p79
                  replace q79 := eq_true q79
                  have HP81 := Kd.R_putg HO_6.out (x25_2 : Int) (0 : Int)
                  go_wp2_with (first | ((with_reducible refine gate_store (t := 2) (p := 96) rfl ?_); refine store_event (t := 2) (p := 96) (v := ?vo_w82) (w1 := (wr.setCell ⟨go79, (x25_2 : Int).toNat, none⟩ (.int .i64 (0 : Int)))) ?hg ?ho ?hn ?hr ?_; (case ho => rfl); (case hg => rfl); (case hn => rfl); (case hr => first | (go_simp; done) | (go_simp; rfl)); intro w82 hw; have hg : wr.grownBy w82 (some go79) := (by rw [hw]; exact HP81.2); have hp_ : Kd.R (Kd.int .i64) 2 w82 w.heap.size (fun k_ => (w.heap.size ≤ k_)) (.slice (some ⟨go79, 0, none⟩) x6_2.length co15) y271030 := (by rw [hw, Ny271030.out]; exact HP81.1); clear HP81; have n0_ := Aside0.mk (Kd.N_afterv (v := (.slice (some ⟨go79, 0, none⟩) x6_2.length co15)) (v1 := (.slice (some ⟨go79, 0, none⟩) x6_2.length co15)) (ok := (fun k_ => (w.heap.size ≤ k_))) (by (with_reducible repeat (first | apply Kd.N_alloc | apply Kd.N_drewN | apply Kd.N_drew)); exact HO_4.out) hg (.inl rfl)); have n1_ := Aside0.mk (hp_); have n2_ := Aside0.mk (Kd.V_afterv (v := (.slice (some ⟨go79, 0, none⟩) x6_2.length co15)) (v1 := (.slice (some ⟨go79, 0, none⟩) x6_2.length co15)) (ok := (fun k_ => (w.heap.size ≤ k_) ∧ some k_ ≠ (.slice (some ad271015) x4_1.length co80 : Value).ownBlock)) (by (with_reducible repeat (first | apply Kd.V_alloc | apply Kd.V_drewN | apply Kd.V_drew)); exact Kd.V_mono HL271015_0.out (fun _ hk => ⟨⟨hk.1.1, hk.2⟩, hk.1.2⟩)) hg (.inl rfl)); have n3_ := Aside0.mk ((by rw [hw]; exact below_set (HB.out) GB79.out : Below w.heap.size w w82)); clear HO_4; clear HO_6; clear HL271015_0; clear HB; have HO_4 := n0_; have HO_6 := n1_; have HL271015_0 := n2_; have HB := n3_; clear n0_ n1_ n2_ n3_; clear hg hw hp_))
                  (try simp only [← hl6_2])
                  go_roundg k2
                  case measure => have := HK1.out; have := HK2.out; omega
                  case rel => exact ⟨(y271030), (wrap64 (x25_2 + 1)), (by first | rfl | (simp; done) | (simp [*]; done)), H', ⟨by have := HK1.out; have := HK2.out; omega⟩, ⟨by (try simp only [hl6_2]); (with_reducible repeat (first | apply Kd.N_alloc | apply Kd.N_drewN | apply Kd.N_drew)); exact HO_4.out⟩, ⟨by (try simp only [hl6_2]); (with_reducible repeat (first | apply Kd.R_alloc | apply Kd.R_drewN | apply Kd.R_drew)); exact HO_6.out⟩, ⟨by repeat (first | (with_reducible first | exact HB.out | apply below_alloc | apply pw_below_drewN | apply below_drew1) | exact HB.out)⟩⟩
                 ·rw [if_neg c78] at H
                  exact absurd H (by simp)
                ·rw [if_neg c77] at H
                 exact absurd H (by simp)
             ·rw [if_neg c54] at H
              have c54b0 : decide (2 ≤ x5_1) = false := decide_eq_false c54
              clear c54
              by_cases c83 : (wrap64 (x5_1 + 1)) = 0
              ·rw [if_pos c83] at H
               exact absurd H (by simp)
              ·rw [if_neg c83] at H
               have c83b0 : ((wrap64 (x5_1 + 1)) == 0) = false := beq_eq_false_iff_ne.mpr c83
               have c83b1 : ((wrap64 (x5_1 + 1)) != 0) = true := bne_iff_ne.mpr c83
               by_cases c84 : 0 ≤ x25_2
               ·rw [if_pos c84] at H
                have c84b0 : decide (0 ≤ x25_2) = true := decide_eq_true c84
                clear c84
                by_cases c85 : x25_2 < (x6_2.length : Int)
                ·rw [if_pos c85] at H
                 have c85b0 : decide (x25_2 < (x6_2.length : Int)) = true := decide_eq_true c85
                 clear c85
                 obtain ⟨y271031, hy271031⟩ : ∃ y_ : List Int, y_ = (x6_2.set (x25_2 : Int).toNat (0 : Int)) := ⟨_, rfl⟩
                 replace H : (impl_PolygonNumbers.l1 k2 a0 x4_1 x5_1 y271031 (y271009.length : Int) (wrap64 (x25_2 + 1))) = some (r1, r2) := by first | (rw [hy271031]; with_reducible exact H) | (have H2_ := (Option.bind_some _ _).symm.trans H; rw [hy271031]; with_reducible exact H2_) | (have H2_ := (Option.bind_some _ _).symm.trans H; with_reducible exact H2_) | with_reducible exact H | (rw [hy271031]; exact H) | exact H
                 have Ny271031 := Aside0.mk hy271031
                 clear hy271031
                 have H' := Aside0.mk H
                 clear H
                 obtain ⟨Ao87, co87, eo87⟩ := Kd.N_slice HO_4.out
                 subst eo87
                 have p271015 : 0 ≤ ((ji17) : Int) := of_decide_eq_true (by first | (with_reducible assumption) | assumption)
                 have q271015 : (ji17) < (x4_1.length : Int) := of_decide_eq_true (by first | (with_reducible assumption) | assumption)
                 obtain ⟨ad271015, A271015_0, c271015_0, e271015, hx271015_0, hl271015_0, hi271015_0⟩ := at_L1 (Mem.C_own (Kd.N_reads' HO_4.out).2.2) (ji17) p271015 q271015
                 cases e271015
                 obtain ⟨ce271015, hce271015, hMe271015, hcc271015⟩ := Kd.N_get HO_4.out [] (ji17) p271015 (by first | exact q271015 | exact of_decide_eq_true (by first | (with_reducible assumption) | assumption) | (have e_ := (Kd.N_reads' HO_4.out).1; omega))
                 obtain ⟨ua271015_0, uc271015_0, rfl, ul271015_0, ge271015_0⟩ := Mem.FK_own_open hMe271015
                 have hv271015_0 := hcc271015 0 _ rfl
                 rw [Nat.add_zero, show ((Mem.ownk 2 w.heap.size)).sz = 1 from rfl, Nat.mul_one] at hv271015_0
                 replace hv271015_0 := Option.some.inj (hv271015_0.symm.trans hx271015_0)
                 injection hv271015_0 with hva_ hvn_ hvc_
                 rw [hva_] at ge271015_0
                 rw [hvc_] at ul271015_0
                 have HL271015_0 := Aside0.mk (show Kd.V (Kd.int .i64) 2 _ w.heap.size _ _ (rd_L1 x4_1 (ji17)) from Kd.V_mk ul271015_0 ge271015_0)
                 have HWO271015 := Aside0.mk (Mem.own_at hMe271015 hva_ hvn_ hvc_)
                 clear hva_ hvn_ hvc_ ge271015_0 ul271015_0
                 clear hcc271015 hce271015
                 have HR271015_0 := Aside0.mk hi271015_0
                 have HC271015_0 := Aside0.mk hl271015_0
                 clear hi271015_0 hl271015_0
                 replace p271015 := eq_true p271015
                 replace q271015 := eq_true q271015
                 have p86 : 0 ≤ (x25_2 : Int) := of_decide_eq_true (by first | (with_reducible assumption) | assumption)
                 have q86 : (x25_2 : Int) < ((x6_2.length : Int) : Int) := of_decide_eq_true (by first | (with_reducible assumption) | assumption)
                 obtain ⟨go86, co86, eo86, gb86, gl86, cl86, HG86⟩ := Kd.R_form HO_6.out (by omega)
                 (first | cases eo86 | (injection eo86 with ea_ en_ ec_; (first | subst ea_ | (injection ea_ with ea_; subst ea_)); subst ec_; clear en_))
                 have GB86 := Aside0.mk gb86
                 have GG86 := Aside0.mk HG86
                 clear gb86 gl86 HG86
                 obtain ⟨hx86_0, hf86_0⟩ := Kd.R_celln 0 HO_6.out (x25_2 : Int) p86 q86
                 replace p86 := eq_true p86
                 replace q86 := eq_true q86
                 have HP88 := Kd.R_putg HO_6.out (x25_2 : Int) (0 : Int)
                 go_wp2_with (first | ((with_reducible refine gate_store (t := 2) (p := 96) rfl ?_); refine store_event (t := 2) (p := 96) (v := ?vo_w89) (w1 := (wr.setCell ⟨go86, (x25_2 : Int).toNat, none⟩ (.int .i64 (0 : Int)))) ?hg ?ho ?hn ?hr ?_; (case ho => rfl); (case hg => rfl); (case hn => rfl); (case hr => first | (go_simp; done) | (go_simp; rfl)); intro w89 hw; have hg : wr.grownBy w89 (some go86) := (by rw [hw]; exact HP88.2); have hp_ : Kd.R (Kd.int .i64) 2 w89 w.heap.size (fun k_ => (w.heap.size ≤ k_)) (.slice (some ⟨go86, 0, none⟩) x6_2.length co15) y271031 := (by rw [hw, Ny271031.out]; exact HP88.1); clear HP88; have n0_ := Aside0.mk (Kd.N_afterv (v := (.slice (some ⟨go86, 0, none⟩) x6_2.length co15)) (v1 := (.slice (some ⟨go86, 0, none⟩) x6_2.length co15)) (ok := (fun k_ => (w.heap.size ≤ k_))) (by (with_reducible repeat (first | apply Kd.N_alloc | apply Kd.N_drewN | apply Kd.N_drew)); exact HO_4.out) hg (.inl rfl)); have n1_ := Aside0.mk (hp_); have n2_ := Aside0.mk (Kd.V_afterv (v := (.slice (some ⟨go86, 0, none⟩) x6_2.length co15)) (v1 := (.slice (some ⟨go86, 0, none⟩) x6_2.length co15)) (ok := (fun k_ => (w.heap.size ≤ k_) ∧ some k_ ≠ (.slice (some ad271015) x4_1.length co87 : Value).ownBlock)) (by (with_reducible repeat (first | apply Kd.V_alloc | apply Kd.V_drewN | apply Kd.V_drew)); exact Kd.V_mono HL271015_0.out (fun _ hk => ⟨⟨hk.1.1, hk.2⟩, hk.1.2⟩)) hg (.inl rfl)); have n3_ := Aside0.mk ((by rw [hw]; exact below_set (HB.out) GB86.out : Below w.heap.size w w89)); clear HO_4; clear HO_6; clear HL271015_0; clear HB; have HO_4 := n0_; have HO_6 := n1_; have HL271015_0 := n2_; have HB := n3_; clear n0_ n1_ n2_ n3_; clear hg hw hp_))
                 (try simp only [← hl6_2])
                 go_roundg k2
                 case measure => have := HK1.out; have := HK2.out; omega
                 case rel => exact ⟨(y271031), (wrap64 (x25_2 + 1)), (by first | rfl | (simp; done) | (simp [*]; done)), H', ⟨by have := HK1.out; have := HK2.out; omega⟩, ⟨by (try simp only [hl6_2]); (with_reducible repeat (first | apply Kd.N_alloc | apply Kd.N_drewN | apply Kd.N_drew)); exact HO_4.out⟩, ⟨by (try simp only [hl6_2]); (with_reducible repeat (first | apply Kd.R_alloc | apply Kd.R_drewN | apply Kd.R_drew)); exact HO_6.out⟩, ⟨by repeat (first | (with_reducible first | exact HB.out | apply below_alloc | apply pw_below_drewN | apply below_drew1) | exact HB.out)⟩⟩
                ·rw [if_neg c85] at H
                 exact absurd H (by simp)
               ·rw [if_neg c84] at H
                exact absurd H (by simp)
           ·rw [if_neg c19] at H
            exact absurd H (by simp)
          ·rw [if_neg c18] at H
           exact absurd H (by simp)
         ·rw [if_neg c16] at H
          have c16b0 : decide (x25_2 < (y271009.length : Int)) = false := decide_eq_false c16
          have c16z := c16b0
          rw [hl6_2] at c16z
          clear c16
          by_cases c90 : x4_1.length < 5864062014805
          ·rw [if_pos c90] at H
           have LMc90 := Aside0.mk c90
           clear c90
           obtain ⟨y271012, hy271012⟩ : ∃ y_ : List (List Int), y_ = (x4_1 ++ [x6_2]) := ⟨_, rfl⟩
           replace H : (impl_PolygonNumbers.l0 k2 a0 y271012 (wrap64 (x5_1 + 1))) = some (r1, r2) := by first | (rw [hy271012]; with_reducible exact H) | (have H2_ := (Option.bind_some _ _).symm.trans H; rw [hy271012]; with_reducible exact H2_) | (have H2_ := (Option.bind_some _ _).symm.trans H; with_reducible exact H2_) | with_reducible exact H | (rw [hy271012]; exact H) | exact H
           have Ny271012 := Aside0.mk hy271012
           clear hy271012
           have H' := Aside0.mk H
           clear H
           go_wp2_with (first | ((with_reducible refine gate_builtin (b := .append) (xs := #[.tmp 98, .tmp 100]) rfl ?_); (try (refine gate_guard (by rfl) ?_; dsimp only)); at_builtin; refine Kd.N_append (Mem.ownk 2 w.heap.size) (w0 := w) w.heap.size rfl (.tmp 98) (.tmp 100) 42 22 (.slice none 0 0) 24 rfl Try.underlying42 info22 rfl Nat.zero_lt_one (by omega) u4 x4_1 x6_2 [.slice Ao15 x6_2.length co15] (fun k_ => (w.heap.size ≤ k_)) (fun k_ => ((fun k_ => (w.heap.size ≤ k_))) k_ ∧ some k_ ≠ (u4 : Value).ownBlock) rfl rfl ?aP (fun _ hk => hk) ?aF ?aO ?aB ?aS ?aL ?_; (case aP => exact (Mem.FK_own_mk (Kd.R_reads' (Kd.R_mono (ok' := (fun k_ => ((fun k_ => (w.heap.size ≤ k_))) k_ ∧ some k_ ≠ (u4 : Value).ownBlock)) (Kd.R_apart' (HO_6.out) (Kd.N_typed HO_4.out) (by decide)) (fun k_ hk => ⟨hk.1, hk.2⟩))).2.1 (Mem.R_keep (Kd.R_mono (ok' := (fun k_ => ((fun k_ => (w.heap.size ≤ k_))) k_ ∧ some k_ ≠ (u4 : Value).ownBlock)) (Kd.R_apart' (HO_6.out) (Kd.N_typed HO_4.out) (by decide)) (fun k_ hk => ⟨hk.1, hk.2⟩))))); (case aB => exact (by repeat (first | (with_reducible first | exact HB.out | apply below_alloc | apply pw_below_drewN | apply below_drew1) | exact HB.out))); (case aF => exact (fun k_ hk => (Nat.le_trans (below_size (by repeat (first | (with_reducible first | exact HB.out | apply below_alloc | apply pw_below_drewN | apply below_drew1) | exact HB.out))) hk))); (case aO => exact (by (with_reducible repeat (first | apply Kd.N_alloc | apply Kd.N_drewN | apply Kd.N_drew)); exact Kd.N_mono HO_4.out (fun _ hk => hk.1))); (case aS => exact (below_size (by repeat (first | (with_reducible first | exact HB.out | apply below_alloc | apply pw_below_drewN | apply below_drew1) | exact HB.out)))); (case aL => have := LMc90.out; omega); intro v271013 w91 ho hb hg hat; rw [← Ny271012.out] at ho; have n0_ := Aside0.mk (hb); have n1_ := Aside0.mk (ho); clear HB; clear HO_4; clear HO_6; have HB := n0_; have HO271014 := n1_; clear n0_ n1_; clear ho hb hg hat))
           (try simp only [← hl6_2])
           go_roundg k2
           case measure => have := HK1.out; have := HK2.out; omega
           case rel => exact ⟨(y271012), (wrap64 (x5_1 + 1)), (by first | rfl | (simp; done) | (simp [*]; done)), H', ⟨by have := HK1.out; have := HK2.out; omega⟩, ⟨by (try simp only [hl6_2]); (with_reducible repeat (first | apply Kd.N_alloc | apply Kd.N_drewN | apply Kd.N_drew)); exact HO271014.out⟩, ⟨by repeat (first | (with_reducible first | exact HB.out | apply below_alloc | apply pw_below_drewN | apply below_drew1) | exact HB.out)⟩⟩
          ·rw [if_neg c90] at H
           exact absurd H (by simp)
      ·rw [if_neg c12] at H
       exact absurd H (by simp)
     ·rw [if_neg c11] at H
      exact absurd H (by simp)
    ·rw [if_neg c9] at H
     have c9b0 : decide (x5_1 ≤ a0) = false := decide_eq_false c9
     clear c9
     by_cases c92 : 0 ≤ a0
     ·rw [if_pos c92] at H
      have c92b0 : decide (0 ≤ a0) = true := decide_eq_true c92
      clear c92
      by_cases c93 : a0 < (x4_1.length : Int)
      ·rw [if_pos c93] at H
       have c93b0 : decide (a0 < (x4_1.length : Int)) = true := decide_eq_true c93
       clear c93
       simp only [Option.some.injEq, Prod.mk.injEq] at H
       obtain ⟨rfl, rfl⟩ := H
       obtain ⟨Ao94, co94, eo94⟩ := Kd.N_slice HO_4.out
       subst eo94
       have p271008 : 0 ≤ (a0 : Int) := of_decide_eq_true (by first | (with_reducible assumption) | assumption)
       have q271008 : a0 < (x4_1.length : Int) := of_decide_eq_true (by first | (with_reducible assumption) | assumption)
       obtain ⟨ad271008, A271008_0, c271008_0, e271008, hx271008_0, hl271008_0, hi271008_0⟩ := at_L1 (Mem.C_own (Kd.N_reads' HO_4.out).2.2) a0 p271008 q271008
       cases e271008
       obtain ⟨ce271008, hce271008, hMe271008, hcc271008⟩ := Kd.N_get HO_4.out [] a0 p271008 (by first | exact q271008 | exact of_decide_eq_true (by first | (with_reducible assumption) | assumption) | (have e_ := (Kd.N_reads' HO_4.out).1; omega))
       obtain ⟨ua271008_0, uc271008_0, rfl, ul271008_0, ge271008_0⟩ := Mem.FK_own_open hMe271008
       have hv271008_0 := hcc271008 0 _ rfl
       rw [Nat.add_zero, show ((Mem.ownk 2 w.heap.size)).sz = 1 from rfl, Nat.mul_one] at hv271008_0
       replace hv271008_0 := Option.some.inj (hv271008_0.symm.trans hx271008_0)
       injection hv271008_0 with hva_ hvn_ hvc_
       rw [hva_] at ge271008_0
       rw [hvc_] at ul271008_0
       have HL271008_0 := Aside0.mk (show Kd.V (Kd.int .i64) 2 _ w.heap.size _ _ (rd_L1 x4_1 a0) from Kd.V_mk ul271008_0 ge271008_0)
       have HWO271008 := Aside0.mk (Mem.own_at hMe271008 hva_ hvn_ hvc_)
       clear hva_ hvn_ hvc_ ge271008_0 ul271008_0
       clear hcc271008 hce271008
       have HR271008_0 := Aside0.mk hi271008_0
       have HC271008_0 := Aside0.mk hl271008_0
       clear hi271008_0 hl271008_0
       replace p271008 := eq_true p271008
       replace q271008 := eq_true q271008
       go_wp2
       go_ret2
       exact ⟨_, by first | rfl | (simp [errW_none, errW_some] <;> rfl) | (simp [*, errW_none, errW_some] <;> rfl), by (with_reducible repeat (first | apply Kd.R_alloc | apply Kd.R_drewN | apply Kd.R_drew)); exact Mem.R_back HWO271008.out, by repeat (first | (with_reducible first | exact HB.out | apply below_alloc | apply pw_below_drewN | apply below_drew1) | exact HB.out)⟩
      ·rw [if_neg c93] at H
       exact absurd H (by simp)
     ·rw [if_neg c92] at H
      exact absurd H (by simp)
 ·replace c3 := Bool.eq_false_iff.mpr c3
  subst c3
  have H1 : (some (([] : List Int), 2)) = some (r1, r2) := by rw [if_neg (show ¬ (false = true) by decide)] at H; exact H
  clear H
  have H := H1
  clear H1
  simp only [Option.some.injEq, Prod.mk.injEq] at H
  obtain ⟨rfl, rfl⟩ := H
  go_enter Try.func27, Try.ntmps27
  go_wp2_with (first | ((with_reducible refine gate_callee (f := 81) rfl ?_); refine goesL_ (some 10) rfl rfl Try.func81 (by kernel_rfl) rfl #[.int .i64 a0, .int .i64 0, .int .i64 12] rfl (by (try simp only [List.map_toArray, List.map_cons, List.map_nil]); first | done | rfl | (simp only [List.length_drop, List.length_take]; rfl)) ?_; (with_reducible refine (impl_in.calls a0 0 12 false _ A2.out).mono ?_); rintro e w' ⟨rfl, ⟨nd, rfl⟩⟩; refine ⟨_, rfl, ?_⟩))
  go_ret2
  exact ⟨_, by first | rfl | (simp [errW_none, errW_some] <;> rfl) | (simp [*, errW_none, errW_some] <;> rfl), Kd.R_nil _ _ _ _ _, by repeat (first | (with_reducible first | exact HB.out | apply below_alloc | apply pw_below_drewN | apply below_drew1) | exact HB.out)⟩

end Go.Proofs.Ytfijnlbkflmkbaa.F
