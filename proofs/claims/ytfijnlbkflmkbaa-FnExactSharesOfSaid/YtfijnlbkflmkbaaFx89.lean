/- What impl_isShare answers, and that the Go text comes to it: for every world in which the arguments read as told. -/
import Derived.Test.YtfijnlbkflmkbaaFgA
namespace Go.Proofs.Ytfijnlbkflmkbaa.F
open Go.RowKit Go.Proofs.YtfijnlbkflmkbaaW.PrintWords Go.Proofs.YtfijnlbkflmkbaaW.PrintLast Go.Proofs.YtfijnlbkflmkbaaW.PrintMore
attribute [local go_sem] max2_int min2_int max_two min_two max_three min_three max_four min_four   -- for this text's walks alone
set_option linter.unusedVariables false
set_option linter.unusedSimpArgs false

/-! ### impl_isShare: function 89 -/
def impl_isShare.f (l0 : List Int) (a1 : Int) (a2 : Int) (a3 : Int) (a4 : Int) : Option (Bool) := if 0 ≤ a1 then (if a1 ≤ a2 then (if a2 ≤ (l0.length : Int) then (if 0 ≤ a3 then (if a3 ≤ a4 then (if a4 ≤ (l0.length : Int) then ((slices_Concat_int64_int64.f (([((l0.take (a2 : Int).toNat).drop (a1 : Int).toNat), ((l0.take (a4 : Int).toNat).drop (a3 : Int).toNat)] : List (List Int)))).bind fun t891014 => ((impl_twice.f t891014).bind fun t891017 => (some t891017))) else (none)) else (none)) else (none)) else (none)) else (none)) else (none)
def impl_isShare.T1 : Bool × List (List Nat × List Nat) := (true, [([], []), ([], []), ([], []), ([0, 1, 2], [0, 1, 2]), ([], []), ([], []), ([], []), ([4, 5, 6], [4, 5, 6]), ([3, 7], [3, 7]), ([8], [8]), ([9, 9, 0, 1, 2, 3, 4, 5, 6, 7, 8, 9], [9])])
def impl_isShare.B1 : List Nat := [0, 0, 0, 7, 0, 0, 0, 112, 255, 511, 1023]
theorem impl_isShare.tab1 : rtab .any (opsOf Try.f89 1) = impl_isShare.T1 := by kernel_rfl
theorem impl_isShare.bits1 : waitsOk impl_isShare.T1.2 impl_isShare.B1 = true := by kernel_rfl
set_option maxHeartbeats 8000000 in
set_option maxRecDepth 100000 in
theorem impl_isShare.calls (P0_ : Nat → Prop) (A0 : Option Addr) (c0 : Nat) (l0 : List Int) (a1 : Int) (a2 : Int) (a3 : Int) (a4 : Int) (r : Bool) (w : World) (hs0 : Kd.V (Kd.int .i64) 2 w w.heap.size (fun k_ => P0_ k_) (.slice A0 l0.length c0) l0) (h : impl_isShare.f l0 a1 a2 a3 a4 = some r) :
  Calls Try.prog 89 #[.slice A0 l0.length c0, .int .i64 a1, .int .i64 a2, .int .i64 a3, .int .i64 a4] w fun e w' => e = .returned (.bool r) ∧ Below w.heap.size w w' := by
 have HO0 := Aside0.mk (show Kd.V (Kd.int .i64) 2 w w.heap.size (fun k_ => (P0_ k_ ∨ w.heap.size ≤ k_)) (.slice A0 l0.length c0) l0 from Kd.V_mono hs0 (fun k_ hk => .inl hk))
 have HB := Aside0.mk (Below.refl w.heap.size w)
 have H : (if 0 ≤ a1 then (if a1 ≤ a2 then (if a2 ≤ (l0.length : Int) then (if 0 ≤ a3 then (if a3 ≤ a4 then (if a4 ≤ (l0.length : Int) then ((slices_Concat_int64_int64.f (([((l0.take (a2 : Int).toNat).drop (a1 : Int).toNat), ((l0.take (a4 : Int).toNat).drop (a3 : Int).toNat)] : List (List Int)))).bind fun t891014 => ((impl_twice.f t891014).bind fun t891017 => (some t891017))) else (none)) else (none)) else (none)) else (none)) else (none)) else (none)) = some r := h
 clear h
 by_cases c6 : 0 ≤ a1
 ·rw [if_pos c6] at H
  have c6b0 := eq_true c6
  have c6b1 : decide (0 ≤ a1) = true := decide_eq_true c6
  clear c6
  by_cases c7 : a1 ≤ a2
  ·rw [if_pos c7] at H
   have c7b0 := eq_true c7
   have c7b1 : decide (a1 ≤ a2) = true := decide_eq_true c7
   clear c7
   by_cases c8 : a2 ≤ (l0.length : Int)
   ·rw [if_pos c8] at H
    have c8b0 := eq_true c8
    have c8b1 : decide (a2 ≤ (l0.length : Int)) = true := decide_eq_true c8
    clear c8
    obtain ⟨y891001, hy891001⟩ : ∃ y_ : List Int, y_ = ((l0.take (a2 : Int).toNat).drop (a1 : Int).toNat) := ⟨_, rfl⟩
    replace H : (if 0 ≤ a3 then (if a3 ≤ a4 then (if a4 ≤ (l0.length : Int) then ((slices_Concat_int64_int64.f (([y891001, ((l0.take (a4 : Int).toNat).drop (a3 : Int).toNat)] : List (List Int)))).bind fun t891014 => ((impl_twice.f t891014).bind fun t891017 => (some t891017))) else (none)) else (none)) else (none)) = some r := by first | (rw [hy891001]; with_reducible exact H) | (have H2_ := (Option.bind_some _ _).symm.trans H; rw [hy891001]; with_reducible exact H2_) | (have H2_ := (Option.bind_some _ _).symm.trans H; with_reducible exact H2_) | with_reducible exact H | (rw [hy891001]; exact H) | exact H
    have Ny891001 := Aside0.mk hy891001
    clear hy891001
    by_cases c9 : 0 ≤ a3
    ·rw [if_pos c9] at H
     have c9b0 := eq_true c9
     have c9b1 : decide (0 ≤ a3) = true := decide_eq_true c9
     clear c9
     by_cases c10 : a3 ≤ a4
     ·rw [if_pos c10] at H
      have c10b0 := eq_true c10
      have c10b1 : decide (a3 ≤ a4) = true := decide_eq_true c10
      clear c10
      by_cases c11 : a4 ≤ (l0.length : Int)
      ·rw [if_pos c11] at H
       have c11b0 := eq_true c11
       have c11b1 : decide (a4 ≤ (l0.length : Int)) = true := decide_eq_true c11
       clear c11
       obtain ⟨y891006, hy891006⟩ : ∃ y_ : List Int, y_ = ((l0.take (a4 : Int).toNat).drop (a3 : Int).toNat) := ⟨_, rfl⟩
       replace H : ((slices_Concat_int64_int64.f (([y891001, y891006] : List (List Int)))).bind fun t891014 => ((impl_twice.f t891014).bind fun t891017 => (some t891017))) = some r := by first | (rw [hy891006]; with_reducible exact H) | (have H2_ := (Option.bind_some _ _).symm.trans H; rw [hy891006]; with_reducible exact H2_) | (have H2_ := (Option.bind_some _ _).symm.trans H; with_reducible exact H2_) | with_reducible exact H | (rw [hy891006]; exact H) | exact H
       have Ny891006 := Aside0.mk hy891006
       clear hy891006
       obtain ⟨y891011, hy891011⟩ : ∃ y_ : List (List Int), y_ = (([y891001, y891006] : List (List Int))) := ⟨_, rfl⟩
       replace H : ((slices_Concat_int64_int64.f y891011).bind fun t891014 => ((impl_twice.f t891014).bind fun t891017 => (some t891017))) = some r := by first | (rw [hy891011]; with_reducible exact H) | (have H2_ := (Option.bind_some _ _).symm.trans H; rw [hy891011]; with_reducible exact H2_) | (have H2_ := (Option.bind_some _ _).symm.trans H; with_reducible exact H2_) | with_reducible exact H | (rw [hy891011]; exact H) | exact H
       have Ny891011 := Aside0.mk hy891011
       clear hy891011
       replace H := Option.bind_eq_some_iff.mp H
       obtain ⟨t891014, A120, H⟩ := H
       replace H : ((impl_twice.f t891014).bind fun t891017 => (some t891017)) = some r := H
       have A12 := Aside0.mk A120
       clear A120
       replace H := Option.bind_eq_some_iff.mp H
       obtain ⟨t891017, A130, H⟩ := H
       replace H : (some t891017) = some r := H
       have A13 := Aside0.mk A130
       clear A130
       obtain rfl := Option.some.inj H
       go_enter Try.func89, Try.ntmps89
       try go_wp2
       have n0_ := Aside0.mk (Kd.V_drew HO0.out)
       have n1_ := Aside0.mk (below_drew1 HB.out)
       clear HO0
       clear HB
       have HO0 := n0_
       have HB := n1_
       clear n0_ n1_
       have q15 : (a2 : Int) ≤ ((l0.length : Int) : Int) := of_decide_eq_true (by first | (with_reducible assumption) | assumption)
       obtain ⟨i015, hi015, _, hsz15, _⟩ := info_parts info2
       have hroom15 : l0.length ≤ c0 := (Kd.V_reads' HO0.out).2.1
       have hC15 : Kd.F (Kd.int .i64) _ _ A0 l0.length l0 := (Kd.V_at (base := w.heap.size) HO0.out).2.2
       have ql15 : (a1 : Int) ≤ (a2 : Int) := of_decide_eq_true (by first | (with_reducible assumption) | assumption)
       have q015 : (0 : Int) ≤ (a1 : Int) := of_decide_eq_true (by first | (with_reducible assumption) | assumption)
       have hcut15 := cut_mid (P := Try.prog) 22 2 .i64 .i64 Try.underlying22 hi015 1 hsz15 A0 l0.length c0 a1 a2 q015 ql15 q15 hroom15
       have hr15 := Kd.F_mid (lo := (a1 : Int).toNat) (hi := (a2 : Int).toNat) (c := c0) hC15 (by omega) (by omega) hroom15
       obtain ⟨A15, hA15⟩ : ∃ A1, A1 = (if c0 = (a1 : Int).toNat then A0 else (A0 : Option Addr).map (·.add ((a1 : Int).toNat * 1))) := ⟨_, rfl⟩
       obtain ⟨c15, hc15⟩ : ∃ c1, c1 = c0 - (a1 : Int).toNat := ⟨_, rfl⟩
       have hy15 : y891001.length = (a2 : Int).toNat - (a1 : Int).toNat := (by rw [Ny891001.out, List.length_drop, List.length_take] <;> omega)
       rw [show ((l0).take (a2 : Int).toNat).drop (a1 : Int).toNat = y891001 from Ny891001.out.symm] at hr15
       replace hr15 : Kd.F (Kd.int .i64) _ _ A15 y891001.length y891001 := (by rw [hA15]; exact hr15)
       rw [← hy15, ← hA15, ← hc15] at hcut15
       have HO891005 := Aside0.mk (show Kd.V (Kd.int .i64) 2 _ w.heap.size _ (.slice A15 y891001.length c15) y891001 from Kd.V_mk (by rw [hy15, hc15]; exact Nat.sub_le_sub_right (Nat.le_trans (by omega) hroom15) _) hr15)
       have HC891005 := Aside0.mk (show y891001.length ≤ c15 from by rw [hy15, hc15]; exact Nat.sub_le_sub_right (Nat.le_trans (by omega) hroom15) _)
       clear hr15 hC15 hroom15 hi015 hsz15 hc15
       have KY15 := Aside0.mk hy15
       have KA15 := Aside0.mk hA15
       clear hy15 hA15
       replace q15 := eq_true q15
       have q16 : (a4 : Int) ≤ ((l0.length : Int) : Int) := of_decide_eq_true (by first | (with_reducible assumption) | assumption)
       obtain ⟨i016, hi016, _, hsz16, _⟩ := info_parts info2
       have hroom16 : l0.length ≤ c0 := (Kd.V_reads' HO0.out).2.1
       have hC16 : Kd.F (Kd.int .i64) _ _ A0 l0.length l0 := (Kd.V_at (base := w.heap.size) HO0.out).2.2
       have ql16 : (a3 : Int) ≤ (a4 : Int) := of_decide_eq_true (by first | (with_reducible assumption) | assumption)
       have q016 : (0 : Int) ≤ (a3 : Int) := of_decide_eq_true (by first | (with_reducible assumption) | assumption)
       have hcut16 := cut_mid (P := Try.prog) 22 2 .i64 .i64 Try.underlying22 hi016 1 hsz16 A0 l0.length c0 a3 a4 q016 ql16 q16 hroom16
       have hr16 := Kd.F_mid (lo := (a3 : Int).toNat) (hi := (a4 : Int).toNat) (c := c0) hC16 (by omega) (by omega) hroom16
       obtain ⟨A16, hA16⟩ : ∃ A1, A1 = (if c0 = (a3 : Int).toNat then A0 else (A0 : Option Addr).map (·.add ((a3 : Int).toNat * 1))) := ⟨_, rfl⟩
       obtain ⟨c16, hc16⟩ : ∃ c1, c1 = c0 - (a3 : Int).toNat := ⟨_, rfl⟩
       have hy16 : y891006.length = (a4 : Int).toNat - (a3 : Int).toNat := (by rw [Ny891006.out, List.length_drop, List.length_take] <;> omega)
       rw [show ((l0).take (a4 : Int).toNat).drop (a3 : Int).toNat = y891006 from Ny891006.out.symm] at hr16
       replace hr16 : Kd.F (Kd.int .i64) _ _ A16 y891006.length y891006 := (by rw [hA16]; exact hr16)
       rw [← hy16, ← hA16, ← hc16] at hcut16
       have HO891010 := Aside0.mk (show Kd.V (Kd.int .i64) 2 _ w.heap.size _ (.slice A16 y891006.length c16) y891006 from Kd.V_mk (by rw [hy16, hc16]; exact Nat.sub_le_sub_right (Nat.le_trans (by omega) hroom16) _) hr16)
       have HC891010 := Aside0.mk (show y891006.length ≤ c16 from by rw [hy16, hc16]; exact Nat.sub_le_sub_right (Nat.le_trans (by omega) hroom16) _)
       clear hr16 hC16 hroom16 hi016 hsz16 hc16
       have KY16 := Aside0.mk hy16
       have KA16 := Aside0.mk hA16
       clear hy16 hA16
       replace q16 := eq_true q16
       refine start_ (n := 11) (S := fun w' => True) (ds := []) #[false, false, false, false, false, false, false, false, false, false, false] (by kernel_rfl) rfl rfl trivial (fun hHeld => ?_); refine with_tabW impl_isShare.tab1 impl_isShare.bits1 (fun HT_ HW_ => ?_)
       generalize w.drew = w14 at HO0 HB HO891005 HO891010 hHeld ⊢
       refine pure_ (i := 0) (N := some 12) (v := ?_) (a' := ?_) #[true, false, false, false, false, false, false, false, false, false, false] rfl rfl (any_of HT_.out (by kernel_rfl)) (fun _ _ _ h => h) (Or.inl ⟨by rfl, ?_⟩) ?_ ?_
       rotate_left
       ·intro w'
        go_simp
        with_reducible rfl
       rotate_left
       ·simp only [Act.put, List.setIfInBounds_toArray, List.set_cons_zero, List.set_cons_succ, i64_w, i32_w]
        rfl
       refine pure_ (i := 1) (N := some 13) (v := ?_) (a' := ?_) #[true, true, false, false, false, false, false, false, false, false, false] rfl rfl (any_of HT_.out (by kernel_rfl)) (fun _ _ _ h => h) (Or.inl ⟨by rfl, ?_⟩) ?_ ?_
       rotate_left
       ·intro w'
        go_simp
        with_reducible rfl
       rotate_left
       ·simp only [Act.put, List.setIfInBounds_toArray, List.set_cons_zero, List.set_cons_succ, i64_w, i32_w]
        rfl
       refine pure_ (i := 2) (N := some 14) (v := ?_) (a' := ?_) #[true, true, true, false, false, false, false, false, false, false, false] rfl rfl (any_of HT_.out (by kernel_rfl)) (fun _ _ _ h => h) (Or.inl ⟨by rfl, ?_⟩) ?_ ?_
       rotate_left
       ·intro w'
        go_simp
        with_reducible rfl
       rotate_left
       ·simp only [Act.put, List.setIfInBounds_toArray, List.set_cons_zero, List.set_cons_succ, i64_w, i32_w]
        rfl
       refine pure_ (i := 3) (N := some 15) (v := ?_) (a' := ?_) #[true, true, true, true, false, false, false, false, false, false, false] rfl rfl (any_of HT_.out (by kernel_rfl)) (fun _ _ _ h => h) (Or.inl ⟨by rfl, ?_⟩) ?_ ?_
       rotate_left
       ·intro w'
        go_simp
        with_reducible rfl
       rotate_left
       ·simp only [Act.put, List.setIfInBounds_toArray, List.set_cons_zero, List.set_cons_succ, i64_w, i32_w]
        rfl
       refine pure_ (i := 4) (N := some 16) (v := ?_) (a' := ?_) #[true, true, true, true, true, false, false, false, false, false, false] rfl rfl (any_of HT_.out (by kernel_rfl)) (fun _ _ _ h => h) (Or.inl ⟨by rfl, ?_⟩) ?_ ?_
       rotate_left
       ·intro w'
        go_simp
        with_reducible rfl
       rotate_left
       ·simp only [Act.put, List.setIfInBounds_toArray, List.set_cons_zero, List.set_cons_succ, i64_w, i32_w]
        rfl
       refine pure_ (i := 5) (N := some 17) (v := ?_) (a' := ?_) #[true, true, true, true, true, true, false, false, false, false, false] rfl rfl (any_of HT_.out (by kernel_rfl)) (fun _ _ _ h => h) (Or.inl ⟨by rfl, ?_⟩) ?_ ?_
       rotate_left
       ·intro w'
        go_simp
        with_reducible rfl
       rotate_left
       ·simp only [Act.put, List.setIfInBounds_toArray, List.set_cons_zero, List.set_cons_succ, i64_w, i32_w]
        rfl
       refine pure_ (i := 6) (N := some 18) (v := ?_) (a' := ?_) #[true, true, true, true, true, true, true, false, false, false, false] rfl rfl (any_of HT_.out (by kernel_rfl)) (fun _ _ _ h => h) (Or.inl ⟨by rfl, ?_⟩) ?_ ?_
       rotate_left
       ·intro w'
        go_simp
        with_reducible rfl
       rotate_left
       ·simp only [Act.put, List.setIfInBounds_toArray, List.set_cons_zero, List.set_cons_succ, i64_w, i32_w]
        rfl
       refine pure_ (i := 7) (N := some 19) (v := ?_) (a' := ?_) #[true, true, true, true, true, true, true, true, false, false, false] rfl rfl (any_of HT_.out (by kernel_rfl)) (fun _ _ _ h => h) (Or.inl ⟨by rfl, ?_⟩) ?_ ?_
       rotate_left
       ·intro w'
        go_simp
        with_reducible rfl
       rotate_left
       ·simp only [Act.put, List.setIfInBounds_toArray, List.set_cons_zero, List.set_cons_succ, i64_w, i32_w]
        rfl
       refine one_ (i := 8) (N := some 20) #[true, true, true, true, true, true, true, true, true, false, false] rfl rfl (one_of HT_.out (by kernel_rfl)) (by decide) (fun K hK => ?_)
       refine Kd.N_lit_step (Kd.slice 2 (Kd.int .i64)) _ 22 ?hg (N' := 20) ?hd (xs := ([y891001, y891006] : List (List Int))) (inner := [.slice A15 y891001.length c15, .slice A16 y891006.length c16]) (ok := (fun k_ => (P0_ k_ ∨ w.heap.size ≤ k_))) (okp := (fun k_ => (P0_ k_ ∨ w.heap.size ≤ k_))) ?hr ?hp (fun _ hk => hk) ((show ∀ k_, w14.heap.size ≤ k_ → (fun k_ => (P0_ k_ ∨ w.heap.size ≤ k_)) k_ from fun k_ hk => (.inr (Nat.le_trans (below_size (by repeat (first | (with_reducible first | exact HB.out | apply below_alloc | apply pw_below_drewN | apply below_drew1) | exact HB.out))) hk))) _ (Nat.le_refl _)) (Below.refl _ _) (Nat.le_refl _) (by simp) ?_; (case hd => rfl); (case hg => rfl); (case hr => first | (go_simp; done) | (go_simp; rfl)); (case hp => exact (Reps.one (show Kd.FK (Kd.slice 2 (Kd.int .i64)) _ _ y891001 [.slice A15 y891001.length c15] from (Kd.FK_slice_mk (Kd.V_reads' (Kd.V_mono (ok' := (fun k_ => (P0_ k_ ∨ w.heap.size ≤ k_))) (HO891005.out) (fun k_ hk => hk))).2.1 (Kd.V_F (Kd.V_mono (ok' := (fun k_ => (P0_ k_ ∨ w.heap.size ≤ k_))) (HO891005.out) (fun k_ hk => hk))))) (Reps.one (show Kd.FK (Kd.slice 2 (Kd.int .i64)) _ _ y891006 [.slice A16 y891006.length c16] from (Kd.FK_slice_mk (Kd.V_reads' (Kd.V_mono (ok' := (fun k_ => (P0_ k_ ∨ w.heap.size ≤ k_))) (HO891010.out) (fun k_ hk => hk))).2.1 (Kd.V_F (Kd.V_mono (ok' := (fun k_ => (P0_ k_ ∨ w.heap.size ≤ k_))) (HO891010.out) (fun k_ hk => hk))))) (Reps.none _ _))))
       intro v891012 w17 ho18 hb hg_ hnew_
       clear hg_ hnew_
       (first | rw [← Ny891011.out] at ho18 | (simp only [Int.reduceToNat] at ho18; rw [← Ny891011.out] at ho18))
       have n0_ := Aside0.mk (Kd.V_elder' (by (with_reducible repeat (first | apply Kd.V_alloc | apply Kd.V_drewN | apply Kd.V_drew)); exact HO0.out) (Kd.N_base ho18) hb)
       have n1_ := Aside0.mk (Kd.V_elder' (by (with_reducible repeat (first | apply Kd.V_alloc | apply Kd.V_drewN | apply Kd.V_drew)); exact HO891005.out) (Kd.N_base ho18) hb)
       have n2_ := Aside0.mk (Kd.V_elder' (by (with_reducible repeat (first | apply Kd.V_alloc | apply Kd.V_drewN | apply Kd.V_drew)); exact HO891010.out) (Kd.N_base ho18) hb)
       have n3_ := Aside0.mk (Kd.N_lower ho18 (below_size (by repeat (first | (with_reducible first | exact HB.out | apply below_alloc | apply pw_below_drewN | apply below_drew1) | exact HB.out))))
       have n4_ := Aside0.mk (below_step (by repeat (first | (with_reducible first | exact HB.out | apply below_alloc | apply pw_below_drewN | apply below_drew1) | exact HB.out)) hb)
       clear HO0
       clear HO891005
       clear HO891010
       clear HB
       have HO0 := n0_
       have HO891005 := n1_
       have HO891010 := n2_
       have HO891013 := n3_
       have HB := n4_
       clear n0_ n1_ n2_ n3_ n4_
       clear hb ho18
       obtain ⟨Ao19, co19, eo19⟩ := Kd.N_slice HO891013.out
       (first | subst eo19 | (injection eo19 with f1_ f2_ f3_; have f4_ := f1_.symm; have f5_ := f3_.symm; clear f1_ f2_ f3_; subst f4_; subst f5_))
       refine hK.out _ _ trivial (fun hHeld => ?_)
       clear hK K
       refine norm_ (a' := ?_) ?_ ?_
       rotate_left
       ·show Act.put _ (some 20) _ = _
        simp only [Act.put, List.setIfInBounds_toArray, List.set_cons_zero, List.set_cons_succ, i64_w, i32_w]
        rfl
       refine one_ (i := 9) (N := some 21) #[true, true, true, true, true, true, true, true, true, true, false] rfl rfl (one_of HT_.out (by kernel_rfl)) (by decide) (fun K hK => ?_)
       refine goes_ Try.func106 (by kernel_rfl) rfl #[.slice Ao19 y891011.length co19] (by rfl) rfl rfl (by (try simp only [List.map_toArray, List.map_cons, List.map_nil]); first | done | rfl | (simp only [List.length_drop, List.length_take]; rfl)) ?_
       with_reducible refine (slices_Concat_int64_int64.calls _ _ y891011 t891014 _ ?side1 ?side2 A12.out).mono ?_
       (case side1 => repeat (first | exact (Kd.N_reads' HO891013.out).2.2 | (with_reducible refine Kd.C_alloc ?_ _) | (with_reducible refine Kd.C_drewN ?_ _) | (with_reducible refine Kd.C_drew ?_)))
       (case side2 => exact (Kd.N_reads' HO891013.out).2.1)
       rintro e w20 ⟨v891015, rfl, ho0, hb⟩
       refine ⟨_, rfl, ?_⟩
       have n0_ := Aside0.mk (Kd.V_elder' (by (with_reducible repeat (first | apply Kd.V_alloc | apply Kd.V_drewN | apply Kd.V_drew)); exact HO0.out) (Kd.R_base ho0) hb)
       have n1_ := Aside0.mk (Kd.V_elder' (by (with_reducible repeat (first | apply Kd.V_alloc | apply Kd.V_drewN | apply Kd.V_drew)); exact HO891005.out) (Kd.R_base ho0) hb)
       have n2_ := Aside0.mk (Kd.V_elder' (by (with_reducible repeat (first | apply Kd.V_alloc | apply Kd.V_drewN | apply Kd.V_drew)); exact HO891010.out) (Kd.R_base ho0) hb)
       have n3_ := Aside0.mk (Kd.N_elder' (by (with_reducible repeat (first | apply Kd.N_alloc | apply Kd.N_drewN | apply Kd.N_drew)); exact HO891013.out) (Kd.R_base ho0) hb)
       have n4_ := Aside0.mk (Kd.R_lower (Kd.R_newM (M := fun k_ => (w.heap.size ≤ k_)) ho0 (below_size (by repeat (first | (with_reducible first | exact HB.out | apply below_alloc | apply pw_below_drewN | apply below_drew1) | exact HB.out))) (fun k_ h_ => h_)) (below_size (by repeat (first | (with_reducible first | exact HB.out | apply below_alloc | apply pw_below_drewN | apply below_drew1) | exact HB.out))))
       have n5_ := Aside0.mk (below_step (by repeat (first | (with_reducible first | exact HB.out | apply below_alloc | apply pw_below_drewN | apply below_drew1) | exact HB.out)) hb)
       clear HO0
       clear HO891005
       clear HO891010
       clear HO891013
       clear HB
       have HO0 := n0_
       have HO891005 := n1_
       have HO891010 := n2_
       have HO891013 := n3_
       have HO891016 := n4_
       have HB := n5_
       clear n0_ n1_ n2_ n3_ n4_ n5_
       (try clear hb)
       (try clear hb2)
       (try clear hk)
       (try clear hi)
       (try clear ho0)
       refine hK.out _ _ trivial (fun hHeld => ?_)
       clear hK K
       refine norm_ (a' := ?_) ?_ ?_
       rotate_left
       ·show Act.put _ (some 21) _ = _
        simp only [Act.put, List.setIfInBounds_toArray, List.set_cons_zero, List.set_cons_succ, i64_w, i32_w]
        rfl
       refine pure_ (i := 10) (N := some 11) (v := ?_) (a' := ?_) #[true, true, true, true, true, true, true, true, true, true, true] rfl rfl (any_of HT_.out (by kernel_rfl)) (fun _ _ _ h => h) (Or.inl ⟨by rfl, ?_⟩) ?_ ?_
       rotate_left
       ·intro w'
        go_simp
        with_reducible rfl
       rotate_left
       ·simp only [Act.put, List.setIfInBounds_toArray, List.set_cons_zero, List.set_cons_succ, i64_w, i32_w]
        rfl
       refine done_ (done_of HT_.out (by kernel_rfl)) ?_
       obtain ⟨Ao21, co21, eo21⟩ := Kd.R_slice HO891016.out
       subst eo21
       try go_wp2_with (first | ((with_reducible refine gate_callee (f := 139) rfl ?_); refine goesL_ (some 23) rfl rfl Try.func139 (by kernel_rfl) rfl #[.slice Ao21 t891014.length co21] rfl (by (try simp only [List.map_toArray, List.map_cons, List.map_nil]); first | done | rfl | (simp only [List.length_drop, List.length_take]; rfl)) ?_; (with_reducible refine (impl_twice.calls _ _ t891014 t891017 _ ?side1 ?side2 A13.out).mono ?_); (case side1 => repeat (first | exact (Kd.R_reads' HO891016.out).2.2 | (with_reducible refine Kd.C_alloc ?_ _) | (with_reducible refine Kd.C_drewN ?_ _) | (with_reducible refine Kd.C_drew ?_))); (case side2 => exact (Kd.R_reads' HO891016.out).2.1); rintro e w22 ⟨rfl, hb⟩; refine ⟨_, rfl, ?_⟩; have n0_ := Aside0.mk (Kd.V_below (by (with_reducible repeat (first | apply Kd.V_alloc | apply Kd.V_drewN | apply Kd.V_drew)); exact HO0.out) hb); have n1_ := Aside0.mk (Kd.V_below (by (with_reducible repeat (first | apply Kd.V_alloc | apply Kd.V_drewN | apply Kd.V_drew)); exact HO891005.out) hb); have n2_ := Aside0.mk (Kd.V_below (by (with_reducible repeat (first | apply Kd.V_alloc | apply Kd.V_drewN | apply Kd.V_drew)); exact HO891010.out) hb); have n3_ := Aside0.mk (Kd.N_below (by (with_reducible repeat (first | apply Kd.N_alloc | apply Kd.N_drewN | apply Kd.N_drew)); exact HO891013.out) hb); have n4_ := Aside0.mk (Kd.R_below (by (with_reducible repeat (first | apply Kd.R_alloc | apply Kd.R_drewN | apply Kd.R_drew)); exact HO891016.out) hb); have n5_ := Aside0.mk (below_step (by repeat (first | (with_reducible first | exact HB.out | apply below_alloc | apply pw_below_drewN | apply below_drew1) | exact HB.out)) hb); clear HO0; clear HO891005; clear HO891010; clear HO891013; clear HO891016; clear HB; have HO0 := n0_; have HO891005 := n1_; have HO891010 := n2_; have HO891013 := n3_; have HO891016 := n4_; have HB := n5_; clear n0_ n1_ n2_ n3_ n4_ n5_; (try clear hb); (try clear hb2); (try clear hk); (try clear hi)))
       go_ret
       exact ⟨by first | rfl | (simp [errW_none, errW_some] <;> rfl) | (simp [*, errW_none, errW_some] <;> rfl), by repeat (first | (with_reducible first | exact HB.out | apply below_alloc | apply pw_below_drewN | apply below_drew1) | exact HB.out)⟩
      ·rw [if_neg c11] at H
       exact absurd H (by simp)
     ·rw [if_neg c10] at H
      exact absurd H (by simp)
    ·rw [if_neg c9] at H
     exact absurd H (by simp)
   ·rw [if_neg c8] at H
    exact absurd H (by simp)
  ·rw [if_neg c7] at H
   exact absurd H (by simp)
 ·rw [if_neg c6] at H
  exact absurd H (by simp)

end Go.Proofs.Ytfijnlbkflmkbaa.F
