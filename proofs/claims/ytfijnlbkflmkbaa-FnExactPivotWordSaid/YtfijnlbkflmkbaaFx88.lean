/- What impl_PivotWord answers, and that the Go text comes to it: for every world in which the arguments read as told. -/
import Derived.Test.YtfijnlbkflmkbaaFgA
namespace Go.Proofs.Ytfijnlbkflmkbaa.F
open Go.RowKit Go.Proofs.YtfijnlbkflmkbaaW.PrintWords Go.Proofs.YtfijnlbkflmkbaaW.PrintLast Go.Proofs.YtfijnlbkflmkbaaW.PrintMore
attribute [local go_sem] max2_int min2_int max_two min_two max_three min_three max_four min_four   -- for this text's walks alone
set_option linter.unusedVariables false
set_option linter.unusedSimpArgs false

/-! ### impl_PivotWord: function 49 -/
def impl_PivotWord.j0 : Nat → List Int → Int → Int → Bool → Option (List Int × Int)
  | 0, _, _, _, _ => none
  | k + 1, x0, x1, x2, x16 => if x16 = true then (some (([] : List Int), 2)) else ((impl_cross.f k x0 x1 x2).bind fun t491004 => (if t491004 = true then ((impl_places.f k x0 (mn x1 x2)).bind fun bt491005 => ((impl_places.f k x0 (mx x1 x2)).bind fun bt491007 => (if 0 ≤ (wrap64 (bt491005.1 + 1)) then (if (wrap64 (bt491005.1 + 1)) ≤ (x0.length : Int) then (if 0 ≤ (wrap64 (bt491005.2 + 1)) then (if (wrap64 (bt491005.2 + 1)) ≤ bt491007.2 then (if bt491007.2 ≤ (x0.length : Int) then (if 0 ≤ bt491007.1 then (if bt491007.1 ≤ (wrap64 (bt491007.1 + 1)) then (if (wrap64 (bt491007.1 + 1)) ≤ (x0.length : Int) then (if 0 ≤ (wrap64 (bt491007.1 + 1)) then (if (wrap64 (bt491007.1 + 1)) ≤ bt491005.2 then (if bt491005.2 ≤ (x0.length : Int) then (if 0 ≤ bt491005.2 then (if bt491005.2 ≤ (wrap64 (bt491005.2 + 1)) then (if (wrap64 (bt491005.2 + 1)) ≤ (x0.length : Int) then (if (wrap64 (bt491005.1 + 1)) ≤ bt491007.1 then (if bt491007.1 ≤ (x0.length : Int) then (if 0 ≤ bt491007.2 then ((slices_Concat_int64_int64.f (([(x0.take ((wrap64 (bt491005.1 + 1)) : Int).toNat), ((x0.take (bt491007.2 : Int).toNat).drop ((wrap64 (bt491005.2 + 1)) : Int).toNat), ((x0.take ((wrap64 (bt491007.1 + 1)) : Int).toNat).drop (bt491007.1 : Int).toNat), ((x0.take (bt491005.2 : Int).toNat).drop ((wrap64 (bt491007.1 + 1)) : Int).toNat), ((x0.take ((wrap64 (bt491005.2 + 1)) : Int).toNat).drop (bt491005.2 : Int).toNat), ((x0.take (bt491007.1 : Int).toNat).drop ((wrap64 (bt491005.1 + 1)) : Int).toNat), (x0.drop (bt491007.2 : Int).toNat)] : List (List Int)))).bind fun t491047 => ((impl_normal.f t491047).bind fun t491050 => (some (t491050, 0)))) else (none)) else (none)) else (none)) else (none)) else (none)) else (none)) else (none)) else (none)) else (none)) else (none)) else (none)) else (none)) else (none)) else (none)) else (none)) else (none)) else (none)))) else (some (([] : List Int), 5))))
def impl_PivotWord.f (k : Nat) (l0 : List Int) (a1 : Int) (a2 : Int) : Option (List Int × Int) := (impl_IsWord.f k l0).bind fun t491001 => (if t491001 = true then ((impl_isChord.f l0 a1).bind fun t491002 => (if t491002 = true then ((impl_isChord.f l0 a2).bind fun t491003 => (impl_PivotWord.j0 k l0 a1 a2 (!t491003))) else (impl_PivotWord.j0 k l0 a1 a2 true))) else (some (([] : List Int), 1)))
theorem impl_PivotWord.mono_l : ∀ k, (∀ y0 y1 y2 y3, LeO (impl_PivotWord.j0 k y0 y1 y2 y3) (impl_PivotWord.j0 (k + 1) y0 y1 y2 y3))
  | 0 => fun _ _ _ _ r h => by simp [impl_PivotWord.j0] at h
  | k + 1 => by
    have ih0 := impl_PivotWord.mono_l k
    · intro y0 y1 y2 y3
      unfold impl_PivotWord.j0
      repeat' first
      | (with_reducible exact ih0 _ _ _ _)
      | (with_reducible exact impl_IsWord.mono _ _)
      | (with_reducible exact impl_cross.mono _ _ _ _)
      | (with_reducible exact impl_places.mono _ _ _)
      | (with_reducible exact LeO.refl _)
      | (with_reducible exact LeO.none _)
      | (with_reducible refine LeO.ite ?_ ?_)
      | (with_reducible refine LeO.bind ?_ (fun _ => ?_))
      | exact ih0 _ _ _ _
      | exact impl_IsWord.mono _ _
      | exact impl_cross.mono _ _ _ _
      | exact impl_places.mono _ _ _
      | exact LeO.none _
      | refine LeO.ite ?_ ?_
      | refine LeO.bind ?_ (fun _ => ?_)
theorem impl_PivotWord.mono : ∀ a0 a1 a2 k, LeO (impl_PivotWord.f k a0 a1 a2) (impl_PivotWord.f (k + 1) a0 a1 a2) := by
  intro a0 a1 a2 k
  have ih0 := impl_PivotWord.mono_l k
  unfold impl_PivotWord.f
  repeat' first
      | (with_reducible exact ih0 _ _ _ _)
      | (with_reducible exact impl_IsWord.mono _ _)
      | (with_reducible exact impl_cross.mono _ _ _ _)
      | (with_reducible exact impl_places.mono _ _ _)
      | (with_reducible exact LeO.refl _)
      | (with_reducible exact LeO.none _)
      | (with_reducible refine LeO.ite ?_ ?_)
      | (with_reducible refine LeO.bind ?_ (fun _ => ?_))
      | exact ih0 _ _ _ _
      | exact impl_IsWord.mono _ _
      | exact impl_cross.mono _ _ _ _
      | exact impl_places.mono _ _ _
      | exact LeO.none _
      | refine LeO.ite ?_ ?_
      | refine LeO.bind ?_ (fun _ => ?_)
def impl_PivotWord.T9 : Bool × List (List Nat × List Nat) := (true, [([], []), ([], []), ([1], [1]), ([0, 2], [0, 2]), ([], []), ([], []), ([5], [5]), ([], []), ([4, 6, 7], [4, 6, 7]), ([], []), ([], []), ([], []), ([11], [11]), ([9, 10, 12], [9, 10, 12]), ([], []), ([], []), ([15], [15]), ([], []), ([14, 16, 17], [14, 16, 17]), ([], []), ([], []), ([], []), ([21], [21]), ([19, 20, 22], [19, 20, 22]), ([], []), ([], []), ([25], [25]), ([], []), ([24, 26, 27], [24, 26, 27]), ([], []), ([], []), ([29, 30], [29, 30]), ([3, 8, 13, 18, 23, 28, 31], [3, 8, 13, 18, 23, 28, 31]), ([32], [32]), ([33, 33], [33]), ([34, 34, 0, 1, 2, 3, 4, 5, 6, 7, 8, 9, 10, 11, 12, 13, 14, 15, 16, 17, 18, 19, 20, 21, 22, 23, 24, 25, 26, 27, 28, 29, 30, 31, 32, 33, 34], [34]), ([35, 0, 1, 2, 3, 4, 5, 6, 7, 8, 9, 10, 11, 12, 13, 14, 15, 16, 17, 18, 19, 20, 21, 22, 23, 24, 25, 26, 27, 28, 29, 30, 31, 32, 33, 34, 35], [])])
def impl_PivotWord.B9 : List Nat := [0, 0, 2, 7, 0, 0, 32, 0, 240, 0, 0, 0, 2048, 7680, 0, 0, 32768, 0, 245760, 0, 0, 0, 2097152, 7864320, 0, 0, 33554432, 0, 251658240, 0, 0, 1610612736, 4294967295, 8589934591, 17179869183, 34359738367, 68719476735]
theorem impl_PivotWord.tab9 : rtab .any (opsOf Try.f49 9) = impl_PivotWord.T9 := by kernel_rfl
theorem impl_PivotWord.bits9 : waitsOk impl_PivotWord.T9.2 impl_PivotWord.B9 = true := by kernel_rfl
set_option maxHeartbeats 8000000 in
set_option maxRecDepth 100000 in
theorem impl_PivotWord.calls (k : Nat) (P0_ : Nat → Prop) (A0 : Option Addr) (c0 : Nat) (l0 : List Int) (a1 : Int) (a2 : Int) (r1 : List Int) (r2 : Int) (w : World) (hs0 : Kd.V (Kd.int .i64) 2 w w.heap.size (fun k_ => P0_ k_) (.slice A0 l0.length c0) l0) (h : impl_PivotWord.f k l0 a1 a2 = some (r1, r2)) :
    Calls Try.prog 49 #[.slice A0 l0.length c0, .int .i64 a1, .int .i64 a2] w fun e w' => ∃ v0_ : Value, e = .returned (.tuple #[v0_, .int .i64 r2]) ∧ Kd.R (Kd.int .i64) 2 w' w.heap.size (fun k_ => (w.heap.size ≤ k_)) v0_ r1 ∧ Below w.heap.size w w' := by
  have HO0 := Aside0.mk (show Kd.V (Kd.int .i64) 2 w w.heap.size (fun k_ => (P0_ k_ ∨ w.heap.size ≤ k_)) (.slice A0 l0.length c0) l0 from Kd.V_mono hs0 (fun k_ hk => .inl hk))
  have HB := Aside0.mk (Below.refl w.heap.size w)
  have H : ((impl_IsWord.f k l0).bind fun t491001 => (if t491001 = true then ((impl_isChord.f l0 a1).bind fun t491002 => (if t491002 = true then ((impl_isChord.f l0 a2).bind fun t491003 => (impl_PivotWord.j0 k l0 a1 a2 (!t491003))) else (impl_PivotWord.j0 k l0 a1 a2 true))) else (some (([] : List Int), 1)))) = some (r1, r2) := h
  clear h
  replace H := Option.bind_eq_some_iff.mp H
  obtain ⟨t491001, A40, H⟩ := H
  replace H : (if t491001 = true then ((impl_isChord.f l0 a1).bind fun t491002 => (if t491002 = true then ((impl_isChord.f l0 a2).bind fun t491003 => (impl_PivotWord.j0 k l0 a1 a2 (!t491003))) else (impl_PivotWord.j0 k l0 a1 a2 true))) else (some (([] : List Int), 1))) = some (r1, r2) := H
  have A4 := Aside0.mk A40
  clear A40
  by_cases c5 : t491001 = true
  · subst c5
    have H1 : ((impl_isChord.f l0 a1).bind fun t491002 => (if t491002 = true then ((impl_isChord.f l0 a2).bind fun t491003 => (impl_PivotWord.j0 k l0 a1 a2 (!t491003))) else (impl_PivotWord.j0 k l0 a1 a2 true))) = some (r1, r2) := by rw [if_pos rfl] at H; exact H
    clear H
    have H := H1
    clear H1
    have HC6 := Aside0.mk H
    clear H
    go_enter Try.func49, Try.ntmps49
    go_upto_region 3 with (first | ((with_reducible refine gate_callee (f := 84) rfl ?_); refine goesL_ (some 14) rfl rfl Try.func84 (by kernel_rfl) rfl #[.slice A0 l0.length c0] rfl (by (try simp only [List.map_toArray, List.map_cons, List.map_nil]); first | done | rfl | (simp only [List.length_drop, List.length_take]; rfl)) ?_; (with_reducible refine (impl_IsWord.calls k _ _ l0 true _ ?side1 ?side2 A4.out).mono ?_); (case side1 => repeat (first | exact (Kd.V_reads' HO0.out).2.2 | (with_reducible refine Kd.C_alloc ?_ _) | (with_reducible refine Kd.C_drewN ?_ _) | (with_reducible refine Kd.C_drew ?_))); (case side2 => exact (Kd.V_reads' HO0.out).2.1); rintro e w7 ⟨rfl, hb⟩; refine ⟨_, rfl, ?_⟩; have n0_ := Aside0.mk (Kd.V_below (by (with_reducible repeat (first | apply Kd.V_alloc | apply Kd.V_drewN | apply Kd.V_drew)); exact HO0.out) hb); have n1_ := Aside0.mk (below_step (by repeat (first | (with_reducible first | exact HB.out | apply below_alloc | apply pw_below_drewN | apply below_drew1) | exact HB.out)) hb); clear HO0; clear HB; have HO0 := n0_; have HB := n1_; clear n0_ n1_; (try clear hb); (try clear hb2); (try clear hk); (try clear hi)))
    (try simp only [Act.put, List.setIfInBounds_toArray, List.set_cons_zero, List.set_cons_succ])
    go_cut [16] (fun v16 wc => ∃ (kq : Nat) (x16_5 : Bool), v16 = .bool x16_5 ∧ Aside0 (impl_PivotWord.j0 kq l0 a1 a2 x16_5 = some (r1, r2)) ∧ Aside0 (kq ≤ k) ∧ Aside0 (Kd.V (Kd.int .i64) 2 wc w.heap.size (fun k_ => (P0_ k_ ∨ w.heap.size ≤ k_)) (.slice A0 l0.length c0) l0) ∧ Aside0 (Below w.heap.size w wc))
    case first =>
      have H := HC6.out
      clear HC6
      replace H := Option.bind_eq_some_iff.mp H
      obtain ⟨t491002, A80, H⟩ := H
      replace H : (if t491002 = true then ((impl_isChord.f l0 a2).bind fun t491003 => (impl_PivotWord.j0 k l0 a1 a2 (!t491003))) else (impl_PivotWord.j0 k l0 a1 a2 true)) = some (r1, r2) := H
      have A8 := Aside0.mk A80
      clear A80
      by_cases c9 : t491002 = true
      · subst c9
        have H1 : ((impl_isChord.f l0 a2).bind fun t491003 => (impl_PivotWord.j0 k l0 a1 a2 (!t491003))) = some (r1, r2) := by rw [if_pos rfl] at H; exact H
        clear H
        have H := H1
        clear H1
        replace H := Option.bind_eq_some_iff.mp H
        obtain ⟨t491003, A100, H⟩ := H
        replace H : (impl_PivotWord.j0 k l0 a1 a2 (!t491003)) = some (r1, r2) := H
        have A10 := Aside0.mk A100
        clear A100
        have H' := Aside0.mk H
        clear H
        go_wp2_with (first | ((with_reducible refine gate_callee (f := 103) rfl ?_); refine goesL_ (some 19) rfl rfl Try.func103 (by kernel_rfl) rfl #[.slice A0 l0.length c0, .int .i64 a1] rfl (by (try simp only [List.map_toArray, List.map_cons, List.map_nil]); first | done | rfl | (simp only [List.length_drop, List.length_take]; rfl)) ?_; (with_reducible refine (impl_isChord.calls _ _ l0 a1 true _ ?side1 ?side2 A8.out).mono ?_); (case side1 => repeat (first | exact (Kd.V_reads' HO0.out).2.2 | (with_reducible refine Kd.C_alloc ?_ _) | (with_reducible refine Kd.C_drewN ?_ _) | (with_reducible refine Kd.C_drew ?_))); (case side2 => exact (Kd.V_reads' HO0.out).2.1); rintro e w' ⟨rfl, ⟨nd, rfl⟩⟩; refine ⟨_, rfl, ?_⟩) | (go_at_call 103; (with_reducible refine (impl_isChord.calls _ _ l0 a2 t491003 _ ?side1 ?side2 A10.out).mono ?_); (case side1 => repeat (first | exact (Kd.V_reads' HO0.out).2.2 | (with_reducible refine Kd.C_alloc ?_ _) | (with_reducible refine Kd.C_drewN ?_ _) | (with_reducible refine Kd.C_drew ?_))); (case side2 => exact (Kd.V_reads' HO0.out).2.1); rintro e w' ⟨rfl, ⟨nd, rfl⟩⟩))
        go_meet
        case rel => exact ⟨_, (!t491003), (by first | rfl | (simp; done) | (simp [*]; done)), H', ⟨by first | omega | exact Nat.le_refl _⟩, ⟨by (with_reducible repeat (first | apply Kd.V_alloc | apply Kd.V_drewN | apply Kd.V_drew)); exact HO0.out⟩, ⟨by repeat (first | (with_reducible first | exact HB.out | apply below_alloc | apply pw_below_drewN | apply below_drew1) | exact HB.out)⟩⟩
      · replace c9 := Bool.eq_false_iff.mpr c9
        subst c9
        have H1 : (impl_PivotWord.j0 k l0 a1 a2 true) = some (r1, r2) := by rw [if_neg (show ¬ (false = true) by decide)] at H; exact H
        clear H
        have H := H1
        clear H1
        have H' := Aside0.mk H
        clear H
        go_wp2_with (first | ((with_reducible refine gate_callee (f := 103) rfl ?_); refine goesL_ (some 19) rfl rfl Try.func103 (by kernel_rfl) rfl #[.slice A0 l0.length c0, .int .i64 a1] rfl (by (try simp only [List.map_toArray, List.map_cons, List.map_nil]); first | done | rfl | (simp only [List.length_drop, List.length_take]; rfl)) ?_; (with_reducible refine (impl_isChord.calls _ _ l0 a1 false _ ?side1 ?side2 A8.out).mono ?_); (case side1 => repeat (first | exact (Kd.V_reads' HO0.out).2.2 | (with_reducible refine Kd.C_alloc ?_ _) | (with_reducible refine Kd.C_drewN ?_ _) | (with_reducible refine Kd.C_drew ?_))); (case side2 => exact (Kd.V_reads' HO0.out).2.1); rintro e w' ⟨rfl, ⟨nd, rfl⟩⟩; refine ⟨_, rfl, ?_⟩))
        go_meet
        case rel => exact ⟨_, (true), (by first | rfl | (simp; done) | (simp [*]; done)), H', ⟨by first | omega | exact Nat.le_refl _⟩, ⟨by (with_reducible repeat (first | apply Kd.V_alloc | apply Kd.V_drewN | apply Kd.V_drew)); exact HO0.out⟩, ⟨by repeat (first | (with_reducible first | exact HB.out | apply below_alloc | apply pw_below_drewN | apply below_drew1) | exact HB.out)⟩⟩
    case rest =>
      clear HC6
      try clear c1
      try clear p2
      try clear c4
      try clear c5
      try clear c8
      try clear c9
      try clear c10
      obtain ⟨kq, x16_5, rfl, HA, HJ5, HO_0, HB⟩ := hcut
      cases kq with
      | zero => exact absurd HA.out (by simp [impl_PivotWord.j0])
      | succ kj5 =>
        have H := HA.out
        clear HA
        simp only [impl_PivotWord.j0] at H
        by_cases c11 : x16_5 = true
        · subst c11
          have H1 : (some (([] : List Int), 2)) = some (r1, r2) := by rw [if_pos rfl] at H; exact H
          clear H
          have H := H1
          clear H1
          simp only [Option.some.injEq, Prod.mk.injEq] at H
          obtain ⟨rfl, rfl⟩ := H
          go_wp2
          go_ret2
          exact ⟨_, by first | rfl | (simp [errW_none, errW_some] <;> rfl) | (simp [*, errW_none, errW_some] <;> rfl), by first | exact Kd.R_nil _ _ _ _ _ | exact Kd.N_nil _ _ _ _ _ | exact Kd.V_nil _ _ _ _ _ | exact Kd.Q_nil _ _ _ _ _ | exact Kd.S_nil _ _ _ _ _, by repeat (first | (with_reducible first | exact HB.out | apply below_alloc | apply pw_below_drewN | apply below_drew1) | exact HB.out)⟩
        · replace c11 := Bool.eq_false_iff.mpr c11
          subst c11
          have H1 : ((impl_cross.f kj5 l0 a1 a2).bind fun t491004 => (if t491004 = true then ((impl_places.f kj5 l0 (mn a1 a2)).bind fun bt491005 => ((impl_places.f kj5 l0 (mx a1 a2)).bind fun bt491007 => (if 0 ≤ (wrap64 (bt491005.1 + 1)) then (if (wrap64 (bt491005.1 + 1)) ≤ (l0.length : Int) then (if 0 ≤ (wrap64 (bt491005.2 + 1)) then (if (wrap64 (bt491005.2 + 1)) ≤ bt491007.2 then (if bt491007.2 ≤ (l0.length : Int) then (if 0 ≤ bt491007.1 then (if bt491007.1 ≤ (wrap64 (bt491007.1 + 1)) then (if (wrap64 (bt491007.1 + 1)) ≤ (l0.length : Int) then (if 0 ≤ (wrap64 (bt491007.1 + 1)) then (if (wrap64 (bt491007.1 + 1)) ≤ bt491005.2 then (if bt491005.2 ≤ (l0.length : Int) then (if 0 ≤ bt491005.2 then (if bt491005.2 ≤ (wrap64 (bt491005.2 + 1)) then (if (wrap64 (bt491005.2 + 1)) ≤ (l0.length : Int) then (if (wrap64 (bt491005.1 + 1)) ≤ bt491007.1 then (if bt491007.1 ≤ (l0.length : Int) then (if 0 ≤ bt491007.2 then ((slices_Concat_int64_int64.f (([(l0.take ((wrap64 (bt491005.1 + 1)) : Int).toNat), ((l0.take (bt491007.2 : Int).toNat).drop ((wrap64 (bt491005.2 + 1)) : Int).toNat), ((l0.take ((wrap64 (bt491007.1 + 1)) : Int).toNat).drop (bt491007.1 : Int).toNat), ((l0.take (bt491005.2 : Int).toNat).drop ((wrap64 (bt491007.1 + 1)) : Int).toNat), ((l0.take ((wrap64 (bt491005.2 + 1)) : Int).toNat).drop (bt491005.2 : Int).toNat), ((l0.take (bt491007.1 : Int).toNat).drop ((wrap64 (bt491005.1 + 1)) : Int).toNat), (l0.drop (bt491007.2 : Int).toNat)] : List (List Int)))).bind fun t491047 => ((impl_normal.f t491047).bind fun t491050 => (some (t491050, 0)))) else (none)) else (none)) else (none)) else (none)) else (none)) else (none)) else (none)) else (none)) else (none)) else (none)) else (none)) else (none)) else (none)) else (none)) else (none)) else (none)) else (none)))) else (some (([] : List Int), 5)))) = some (r1, r2) := by rw [if_neg (show ¬ (false = true) by decide)] at H; exact H
          clear H
          have H := H1
          clear H1
          replace H := Option.bind_eq_some_iff.mp H
          obtain ⟨t491004, A120, H⟩ := H
          replace H : (if t491004 = true then ((impl_places.f kj5 l0 (mn a1 a2)).bind fun bt491005 => ((impl_places.f kj5 l0 (mx a1 a2)).bind fun bt491007 => (if 0 ≤ (wrap64 (bt491005.1 + 1)) then (if (wrap64 (bt491005.1 + 1)) ≤ (l0.length : Int) then (if 0 ≤ (wrap64 (bt491005.2 + 1)) then (if (wrap64 (bt491005.2 + 1)) ≤ bt491007.2 then (if bt491007.2 ≤ (l0.length : Int) then (if 0 ≤ bt491007.1 then (if bt491007.1 ≤ (wrap64 (bt491007.1 + 1)) then (if (wrap64 (bt491007.1 + 1)) ≤ (l0.length : Int) then (if 0 ≤ (wrap64 (bt491007.1 + 1)) then (if (wrap64 (bt491007.1 + 1)) ≤ bt491005.2 then (if bt491005.2 ≤ (l0.length : Int) then (if 0 ≤ bt491005.2 then (if bt491005.2 ≤ (wrap64 (bt491005.2 + 1)) then (if (wrap64 (bt491005.2 + 1)) ≤ (l0.length : Int) then (if (wrap64 (bt491005.1 + 1)) ≤ bt491007.1 then (if bt491007.1 ≤ (l0.length : Int) then (if 0 ≤ bt491007.2 then ((slices_Concat_int64_int64.f (([(l0.take ((wrap64 (bt491005.1 + 1)) : Int).toNat), ((l0.take (bt491007.2 : Int).toNat).drop ((wrap64 (bt491005.2 + 1)) : Int).toNat), ((l0.take ((wrap64 (bt491007.1 + 1)) : Int).toNat).drop (bt491007.1 : Int).toNat), ((l0.take (bt491005.2 : Int).toNat).drop ((wrap64 (bt491007.1 + 1)) : Int).toNat), ((l0.take ((wrap64 (bt491005.2 + 1)) : Int).toNat).drop (bt491005.2 : Int).toNat), ((l0.take (bt491007.1 : Int).toNat).drop ((wrap64 (bt491005.1 + 1)) : Int).toNat), (l0.drop (bt491007.2 : Int).toNat)] : List (List Int)))).bind fun t491047 => ((impl_normal.f t491047).bind fun t491050 => (some (t491050, 0)))) else (none)) else (none)) else (none)) else (none)) else (none)) else (none)) else (none)) else (none)) else (none)) else (none)) else (none)) else (none)) else (none)) else (none)) else (none)) else (none)) else (none)))) else (some (([] : List Int), 5))) = some (r1, r2) := H
          have A12 := Aside0.mk A120
          clear A120
          by_cases c13 : t491004 = true
          · subst c13
            have H1 : ((impl_places.f kj5 l0 (mn a1 a2)).bind fun bt491005 => ((impl_places.f kj5 l0 (mx a1 a2)).bind fun bt491007 => (if 0 ≤ (wrap64 (bt491005.1 + 1)) then (if (wrap64 (bt491005.1 + 1)) ≤ (l0.length : Int) then (if 0 ≤ (wrap64 (bt491005.2 + 1)) then (if (wrap64 (bt491005.2 + 1)) ≤ bt491007.2 then (if bt491007.2 ≤ (l0.length : Int) then (if 0 ≤ bt491007.1 then (if bt491007.1 ≤ (wrap64 (bt491007.1 + 1)) then (if (wrap64 (bt491007.1 + 1)) ≤ (l0.length : Int) then (if 0 ≤ (wrap64 (bt491007.1 + 1)) then (if (wrap64 (bt491007.1 + 1)) ≤ bt491005.2 then (if bt491005.2 ≤ (l0.length : Int) then (if 0 ≤ bt491005.2 then (if bt491005.2 ≤ (wrap64 (bt491005.2 + 1)) then (if (wrap64 (bt491005.2 + 1)) ≤ (l0.length : Int) then (if (wrap64 (bt491005.1 + 1)) ≤ bt491007.1 then (if bt491007.1 ≤ (l0.length : Int) then (if 0 ≤ bt491007.2 then ((slices_Concat_int64_int64.f (([(l0.take ((wrap64 (bt491005.1 + 1)) : Int).toNat), ((l0.take (bt491007.2 : Int).toNat).drop ((wrap64 (bt491005.2 + 1)) : Int).toNat), ((l0.take ((wrap64 (bt491007.1 + 1)) : Int).toNat).drop (bt491007.1 : Int).toNat), ((l0.take (bt491005.2 : Int).toNat).drop ((wrap64 (bt491007.1 + 1)) : Int).toNat), ((l0.take ((wrap64 (bt491005.2 + 1)) : Int).toNat).drop (bt491005.2 : Int).toNat), ((l0.take (bt491007.1 : Int).toNat).drop ((wrap64 (bt491005.1 + 1)) : Int).toNat), (l0.drop (bt491007.2 : Int).toNat)] : List (List Int)))).bind fun t491047 => ((impl_normal.f t491047).bind fun t491050 => (some (t491050, 0)))) else (none)) else (none)) else (none)) else (none)) else (none)) else (none)) else (none)) else (none)) else (none)) else (none)) else (none)) else (none)) else (none)) else (none)) else (none)) else (none)) else (none)))) = some (r1, r2) := by rw [if_pos rfl] at H; exact H
            clear H
            have H := H1
            clear H1
            obtain ⟨ji14, hji14⟩ : ∃ j_ : Int, (mn a1 a2) = j_ := ⟨_, rfl⟩
            replace H : ((impl_places.f kj5 l0 (ji14)).bind fun bt491005 => ((impl_places.f kj5 l0 (mx a1 a2)).bind fun bt491007 => (if 0 ≤ (wrap64 (bt491005.1 + 1)) then (if (wrap64 (bt491005.1 + 1)) ≤ (l0.length : Int) then (if 0 ≤ (wrap64 (bt491005.2 + 1)) then (if (wrap64 (bt491005.2 + 1)) ≤ bt491007.2 then (if bt491007.2 ≤ (l0.length : Int) then (if 0 ≤ bt491007.1 then (if bt491007.1 ≤ (wrap64 (bt491007.1 + 1)) then (if (wrap64 (bt491007.1 + 1)) ≤ (l0.length : Int) then (if 0 ≤ (wrap64 (bt491007.1 + 1)) then (if (wrap64 (bt491007.1 + 1)) ≤ bt491005.2 then (if bt491005.2 ≤ (l0.length : Int) then (if 0 ≤ bt491005.2 then (if bt491005.2 ≤ (wrap64 (bt491005.2 + 1)) then (if (wrap64 (bt491005.2 + 1)) ≤ (l0.length : Int) then (if (wrap64 (bt491005.1 + 1)) ≤ bt491007.1 then (if bt491007.1 ≤ (l0.length : Int) then (if 0 ≤ bt491007.2 then ((slices_Concat_int64_int64.f (([(l0.take ((wrap64 (bt491005.1 + 1)) : Int).toNat), ((l0.take (bt491007.2 : Int).toNat).drop ((wrap64 (bt491005.2 + 1)) : Int).toNat), ((l0.take ((wrap64 (bt491007.1 + 1)) : Int).toNat).drop (bt491007.1 : Int).toNat), ((l0.take (bt491005.2 : Int).toNat).drop ((wrap64 (bt491007.1 + 1)) : Int).toNat), ((l0.take ((wrap64 (bt491005.2 + 1)) : Int).toNat).drop (bt491005.2 : Int).toNat), ((l0.take (bt491007.1 : Int).toNat).drop ((wrap64 (bt491005.1 + 1)) : Int).toNat), (l0.drop (bt491007.2 : Int).toNat)] : List (List Int)))).bind fun t491047 => ((impl_normal.f t491047).bind fun t491050 => (some (t491050, 0)))) else (none)) else (none)) else (none)) else (none)) else (none)) else (none)) else (none)) else (none)) else (none)) else (none)) else (none)) else (none)) else (none)) else (none)) else (none)) else (none)) else (none)))) = some (r1, r2) := by first | (rw [hji14] at H; exact H) | (simp only [hji14] at H ⊢; exact H)
            (try rw [hji14] at A12)
            have hji14_ : (if a2 < a1 then a2 else a1) = ji14 := hji14
            replace H := Option.bind_eq_some_iff.mp H
            obtain ⟨⟨t491005, t491006⟩, A150, H⟩ := H
            replace H : ((impl_places.f kj5 l0 (mx a1 a2)).bind fun bt491007 => (if 0 ≤ (wrap64 (t491005 + 1)) then (if (wrap64 (t491005 + 1)) ≤ (l0.length : Int) then (if 0 ≤ (wrap64 (t491006 + 1)) then (if (wrap64 (t491006 + 1)) ≤ bt491007.2 then (if bt491007.2 ≤ (l0.length : Int) then (if 0 ≤ bt491007.1 then (if bt491007.1 ≤ (wrap64 (bt491007.1 + 1)) then (if (wrap64 (bt491007.1 + 1)) ≤ (l0.length : Int) then (if 0 ≤ (wrap64 (bt491007.1 + 1)) then (if (wrap64 (bt491007.1 + 1)) ≤ t491006 then (if t491006 ≤ (l0.length : Int) then (if 0 ≤ t491006 then (if t491006 ≤ (wrap64 (t491006 + 1)) then (if (wrap64 (t491006 + 1)) ≤ (l0.length : Int) then (if (wrap64 (t491005 + 1)) ≤ bt491007.1 then (if bt491007.1 ≤ (l0.length : Int) then (if 0 ≤ bt491007.2 then ((slices_Concat_int64_int64.f (([(l0.take ((wrap64 (t491005 + 1)) : Int).toNat), ((l0.take (bt491007.2 : Int).toNat).drop ((wrap64 (t491006 + 1)) : Int).toNat), ((l0.take ((wrap64 (bt491007.1 + 1)) : Int).toNat).drop (bt491007.1 : Int).toNat), ((l0.take (t491006 : Int).toNat).drop ((wrap64 (bt491007.1 + 1)) : Int).toNat), ((l0.take ((wrap64 (t491006 + 1)) : Int).toNat).drop (t491006 : Int).toNat), ((l0.take (bt491007.1 : Int).toNat).drop ((wrap64 (t491005 + 1)) : Int).toNat), (l0.drop (bt491007.2 : Int).toNat)] : List (List Int)))).bind fun t491047 => ((impl_normal.f t491047).bind fun t491050 => (some (t491050, 0)))) else (none)) else (none)) else (none)) else (none)) else (none)) else (none)) else (none)) else (none)) else (none)) else (none)) else (none)) else (none)) else (none)) else (none)) else (none)) else (none)) else (none))) = some (r1, r2) := H
            have A15 := Aside0.mk A150
            clear A150
            obtain ⟨ji16, hji16⟩ : ∃ j_ : Int, (mx a1 a2) = j_ := ⟨_, rfl⟩
            replace H : ((impl_places.f kj5 l0 (ji16)).bind fun bt491007 => (if 0 ≤ (wrap64 (t491005 + 1)) then (if (wrap64 (t491005 + 1)) ≤ (l0.length : Int) then (if 0 ≤ (wrap64 (t491006 + 1)) then (if (wrap64 (t491006 + 1)) ≤ bt491007.2 then (if bt491007.2 ≤ (l0.length : Int) then (if 0 ≤ bt491007.1 then (if bt491007.1 ≤ (wrap64 (bt491007.1 + 1)) then (if (wrap64 (bt491007.1 + 1)) ≤ (l0.length : Int) then (if 0 ≤ (wrap64 (bt491007.1 + 1)) then (if (wrap64 (bt491007.1 + 1)) ≤ t491006 then (if t491006 ≤ (l0.length : Int) then (if 0 ≤ t491006 then (if t491006 ≤ (wrap64 (t491006 + 1)) then (if (wrap64 (t491006 + 1)) ≤ (l0.length : Int) then (if (wrap64 (t491005 + 1)) ≤ bt491007.1 then (if bt491007.1 ≤ (l0.length : Int) then (if 0 ≤ bt491007.2 then ((slices_Concat_int64_int64.f (([(l0.take ((wrap64 (t491005 + 1)) : Int).toNat), ((l0.take (bt491007.2 : Int).toNat).drop ((wrap64 (t491006 + 1)) : Int).toNat), ((l0.take ((wrap64 (bt491007.1 + 1)) : Int).toNat).drop (bt491007.1 : Int).toNat), ((l0.take (t491006 : Int).toNat).drop ((wrap64 (bt491007.1 + 1)) : Int).toNat), ((l0.take ((wrap64 (t491006 + 1)) : Int).toNat).drop (t491006 : Int).toNat), ((l0.take (bt491007.1 : Int).toNat).drop ((wrap64 (t491005 + 1)) : Int).toNat), (l0.drop (bt491007.2 : Int).toNat)] : List (List Int)))).bind fun t491047 => ((impl_normal.f t491047).bind fun t491050 => (some (t491050, 0)))) else (none)) else (none)) else (none)) else (none)) else (none)) else (none)) else (none)) else (none)) else (none)) else (none)) else (none)) else (none)) else (none)) else (none)) else (none)) else (none)) else (none))) = some (r1, r2) := by first | (rw [hji16] at H; exact H) | (simp only [hji16] at H ⊢; exact H)
            (try rw [hji16] at A12)
            (try rw [hji16] at A15)
            have hji16_ : (if a1 < a2 then a2 else a1) = ji16 := hji16
            replace H := Option.bind_eq_some_iff.mp H
            obtain ⟨⟨t491007, t491008⟩, A170, H⟩ := H
            replace H : (if 0 ≤ (wrap64 (t491005 + 1)) then (if (wrap64 (t491005 + 1)) ≤ (l0.length : Int) then (if 0 ≤ (wrap64 (t491006 + 1)) then (if (wrap64 (t491006 + 1)) ≤ t491008 then (if t491008 ≤ (l0.length : Int) then (if 0 ≤ t491007 then (if t491007 ≤ (wrap64 (t491007 + 1)) then (if (wrap64 (t491007 + 1)) ≤ (l0.length : Int) then (if 0 ≤ (wrap64 (t491007 + 1)) then (if (wrap64 (t491007 + 1)) ≤ t491006 then (if t491006 ≤ (l0.length : Int) then (if 0 ≤ t491006 then (if t491006 ≤ (wrap64 (t491006 + 1)) then (if (wrap64 (t491006 + 1)) ≤ (l0.length : Int) then (if (wrap64 (t491005 + 1)) ≤ t491007 then (if t491007 ≤ (l0.length : Int) then (if 0 ≤ t491008 then ((slices_Concat_int64_int64.f (([(l0.take ((wrap64 (t491005 + 1)) : Int).toNat), ((l0.take (t491008 : Int).toNat).drop ((wrap64 (t491006 + 1)) : Int).toNat), ((l0.take ((wrap64 (t491007 + 1)) : Int).toNat).drop (t491007 : Int).toNat), ((l0.take (t491006 : Int).toNat).drop ((wrap64 (t491007 + 1)) : Int).toNat), ((l0.take ((wrap64 (t491006 + 1)) : Int).toNat).drop (t491006 : Int).toNat), ((l0.take (t491007 : Int).toNat).drop ((wrap64 (t491005 + 1)) : Int).toNat), (l0.drop (t491008 : Int).toNat)] : List (List Int)))).bind fun t491047 => ((impl_normal.f t491047).bind fun t491050 => (some (t491050, 0)))) else (none)) else (none)) else (none)) else (none)) else (none)) else (none)) else (none)) else (none)) else (none)) else (none)) else (none)) else (none)) else (none)) else (none)) else (none)) else (none)) else (none)) = some (r1, r2) := H
            have A17 := Aside0.mk A170
            clear A170
            obtain ⟨ji18, hji18⟩ : ∃ j_ : Int, (wrap64 (t491005 + 1)) = j_ := ⟨_, rfl⟩
            replace H : (if 0 ≤ (ji18) then (if (ji18) ≤ (l0.length : Int) then (if 0 ≤ (wrap64 (t491006 + 1)) then (if (wrap64 (t491006 + 1)) ≤ t491008 then (if t491008 ≤ (l0.length : Int) then (if 0 ≤ t491007 then (if t491007 ≤ (wrap64 (t491007 + 1)) then (if (wrap64 (t491007 + 1)) ≤ (l0.length : Int) then (if 0 ≤ (wrap64 (t491007 + 1)) then (if (wrap64 (t491007 + 1)) ≤ t491006 then (if t491006 ≤ (l0.length : Int) then (if 0 ≤ t491006 then (if t491006 ≤ (wrap64 (t491006 + 1)) then (if (wrap64 (t491006 + 1)) ≤ (l0.length : Int) then (if (ji18) ≤ t491007 then (if t491007 ≤ (l0.length : Int) then (if 0 ≤ t491008 then ((slices_Concat_int64_int64.f (([(l0.take ((ji18) : Int).toNat), ((l0.take (t491008 : Int).toNat).drop ((wrap64 (t491006 + 1)) : Int).toNat), ((l0.take ((wrap64 (t491007 + 1)) : Int).toNat).drop (t491007 : Int).toNat), ((l0.take (t491006 : Int).toNat).drop ((wrap64 (t491007 + 1)) : Int).toNat), ((l0.take ((wrap64 (t491006 + 1)) : Int).toNat).drop (t491006 : Int).toNat), ((l0.take (t491007 : Int).toNat).drop ((ji18) : Int).toNat), (l0.drop (t491008 : Int).toNat)] : List (List Int)))).bind fun t491047 => ((impl_normal.f t491047).bind fun t491050 => (some (t491050, 0)))) else (none)) else (none)) else (none)) else (none)) else (none)) else (none)) else (none)) else (none)) else (none)) else (none)) else (none)) else (none)) else (none)) else (none)) else (none)) else (none)) else (none)) = some (r1, r2) := by first | (rw [hji18] at H; exact H) | (simp only [hji18] at H ⊢; exact H)
            (try rw [hji18] at A12)
            (try rw [hji18] at A15)
            (try rw [hji18] at A17)
            have hji18w : (IntKind.i64.wrap (t491005 + 1)) = ji18 := (i64_w _).trans hji18
            by_cases c19 : 0 ≤ (ji18)
            · rw [if_pos c19] at H
              have c19b0 := eq_true c19
              have c19b1 : decide (0 ≤ (ji18)) = true := decide_eq_true c19
              clear c19
              by_cases c20 : (ji18) ≤ (l0.length : Int)
              · rw [if_pos c20] at H
                have c20b0 := eq_true c20
                have c20b1 : decide ((ji18) ≤ (l0.length : Int)) = true := decide_eq_true c20
                clear c20
                obtain ⟨y491009, hy491009⟩ : ∃ y_ : List Int, y_ = (l0.take ((ji18) : Int).toNat) := ⟨_, rfl⟩
                replace H : (if 0 ≤ (wrap64 (t491006 + 1)) then (if (wrap64 (t491006 + 1)) ≤ t491008 then (if t491008 ≤ (l0.length : Int) then (if 0 ≤ t491007 then (if t491007 ≤ (wrap64 (t491007 + 1)) then (if (wrap64 (t491007 + 1)) ≤ (l0.length : Int) then (if 0 ≤ (wrap64 (t491007 + 1)) then (if (wrap64 (t491007 + 1)) ≤ t491006 then (if t491006 ≤ (l0.length : Int) then (if 0 ≤ t491006 then (if t491006 ≤ (wrap64 (t491006 + 1)) then (if (wrap64 (t491006 + 1)) ≤ (l0.length : Int) then (if (ji18) ≤ t491007 then (if t491007 ≤ (l0.length : Int) then (if 0 ≤ t491008 then ((slices_Concat_int64_int64.f (([y491009, ((l0.take (t491008 : Int).toNat).drop ((wrap64 (t491006 + 1)) : Int).toNat), ((l0.take ((wrap64 (t491007 + 1)) : Int).toNat).drop (t491007 : Int).toNat), ((l0.take (t491006 : Int).toNat).drop ((wrap64 (t491007 + 1)) : Int).toNat), ((l0.take ((wrap64 (t491006 + 1)) : Int).toNat).drop (t491006 : Int).toNat), ((l0.take (t491007 : Int).toNat).drop ((ji18) : Int).toNat), (l0.drop (t491008 : Int).toNat)] : List (List Int)))).bind fun t491047 => ((impl_normal.f t491047).bind fun t491050 => (some (t491050, 0)))) else (none)) else (none)) else (none)) else (none)) else (none)) else (none)) else (none)) else (none)) else (none)) else (none)) else (none)) else (none)) else (none)) else (none)) else (none)) = some (r1, r2) := by first | (rw [hy491009]; with_reducible exact H) | (have H2_ := (Option.bind_some _ _).symm.trans H; rw [hy491009]; with_reducible exact H2_) | (have H2_ := (Option.bind_some _ _).symm.trans H; with_reducible exact H2_) | with_reducible exact H | (rw [hy491009]; exact H) | exact H
                have Ny491009 := Aside0.mk hy491009
                clear hy491009
                obtain ⟨ji21, hji21⟩ : ∃ j_ : Int, (wrap64 (t491006 + 1)) = j_ := ⟨_, rfl⟩
                replace H : (if 0 ≤ (ji21) then (if (ji21) ≤ t491008 then (if t491008 ≤ (l0.length : Int) then (if 0 ≤ t491007 then (if t491007 ≤ (wrap64 (t491007 + 1)) then (if (wrap64 (t491007 + 1)) ≤ (l0.length : Int) then (if 0 ≤ (wrap64 (t491007 + 1)) then (if (wrap64 (t491007 + 1)) ≤ t491006 then (if t491006 ≤ (l0.length : Int) then (if 0 ≤ t491006 then (if t491006 ≤ (ji21) then (if (ji21) ≤ (l0.length : Int) then (if (ji18) ≤ t491007 then (if t491007 ≤ (l0.length : Int) then (if 0 ≤ t491008 then ((slices_Concat_int64_int64.f (([y491009, ((l0.take (t491008 : Int).toNat).drop ((ji21) : Int).toNat), ((l0.take ((wrap64 (t491007 + 1)) : Int).toNat).drop (t491007 : Int).toNat), ((l0.take (t491006 : Int).toNat).drop ((wrap64 (t491007 + 1)) : Int).toNat), ((l0.take ((ji21) : Int).toNat).drop (t491006 : Int).toNat), ((l0.take (t491007 : Int).toNat).drop ((ji18) : Int).toNat), (l0.drop (t491008 : Int).toNat)] : List (List Int)))).bind fun t491047 => ((impl_normal.f t491047).bind fun t491050 => (some (t491050, 0)))) else (none)) else (none)) else (none)) else (none)) else (none)) else (none)) else (none)) else (none)) else (none)) else (none)) else (none)) else (none)) else (none)) else (none)) else (none)) = some (r1, r2) := by first | (rw [hji21] at H; exact H) | (simp only [hji21] at H ⊢; exact H)
                (try rw [hji21] at A12)
                (try rw [hji21] at A15)
                (try rw [hji21] at A17)
                have hji21w : (IntKind.i64.wrap (t491006 + 1)) = ji21 := (i64_w _).trans hji21
                by_cases c22 : 0 ≤ (ji21)
                · rw [if_pos c22] at H
                  have c22b0 := eq_true c22
                  have c22b1 : decide (0 ≤ (ji21)) = true := decide_eq_true c22
                  clear c22
                  by_cases c23 : (ji21) ≤ t491008
                  · rw [if_pos c23] at H
                    have c23b0 := eq_true c23
                    have c23b1 : decide ((ji21) ≤ t491008) = true := decide_eq_true c23
                    clear c23
                    by_cases c24 : t491008 ≤ (l0.length : Int)
                    · rw [if_pos c24] at H
                      have c24b0 := eq_true c24
                      have c24b1 : decide (t491008 ≤ (l0.length : Int)) = true := decide_eq_true c24
                      clear c24
                      obtain ⟨y491014, hy491014⟩ : ∃ y_ : List Int, y_ = ((l0.take (t491008 : Int).toNat).drop ((ji21) : Int).toNat) := ⟨_, rfl⟩
                      replace H : (if 0 ≤ t491007 then (if t491007 ≤ (wrap64 (t491007 + 1)) then (if (wrap64 (t491007 + 1)) ≤ (l0.length : Int) then (if 0 ≤ (wrap64 (t491007 + 1)) then (if (wrap64 (t491007 + 1)) ≤ t491006 then (if t491006 ≤ (l0.length : Int) then (if 0 ≤ t491006 then (if t491006 ≤ (ji21) then (if (ji21) ≤ (l0.length : Int) then (if (ji18) ≤ t491007 then (if t491007 ≤ (l0.length : Int) then (if 0 ≤ t491008 then ((slices_Concat_int64_int64.f (([y491009, y491014, ((l0.take ((wrap64 (t491007 + 1)) : Int).toNat).drop (t491007 : Int).toNat), ((l0.take (t491006 : Int).toNat).drop ((wrap64 (t491007 + 1)) : Int).toNat), ((l0.take ((ji21) : Int).toNat).drop (t491006 : Int).toNat), ((l0.take (t491007 : Int).toNat).drop ((ji18) : Int).toNat), (l0.drop (t491008 : Int).toNat)] : List (List Int)))).bind fun t491047 => ((impl_normal.f t491047).bind fun t491050 => (some (t491050, 0)))) else (none)) else (none)) else (none)) else (none)) else (none)) else (none)) else (none)) else (none)) else (none)) else (none)) else (none)) else (none)) = some (r1, r2) := by first | (rw [hy491014]; with_reducible exact H) | (have H2_ := (Option.bind_some _ _).symm.trans H; rw [hy491014]; with_reducible exact H2_) | (have H2_ := (Option.bind_some _ _).symm.trans H; with_reducible exact H2_) | with_reducible exact H | (rw [hy491014]; exact H) | exact H
                      have Ny491014 := Aside0.mk hy491014
                      clear hy491014
                      by_cases c25 : 0 ≤ t491007
                      · rw [if_pos c25] at H
                        have c25b0 := eq_true c25
                        have c25b1 : decide (0 ≤ t491007) = true := decide_eq_true c25
                        clear c25
                        by_cases c26 : t491007 ≤ (wrap64 (t491007 + 1))
                        · rw [if_pos c26] at H
                          have c26b0 := eq_true c26
                          have c26b1 : decide (t491007 ≤ (wrap64 (t491007 + 1))) = true := decide_eq_true c26
                          by_cases c27 : (wrap64 (t491007 + 1)) ≤ (l0.length : Int)
                          · rw [if_pos c27] at H
                            have c27b0 := eq_true c27
                            have c27b1 : decide ((wrap64 (t491007 + 1)) ≤ (l0.length : Int)) = true := decide_eq_true c27
                            obtain ⟨y491019, hy491019⟩ : ∃ y_ : List Int, y_ = ((l0.take ((wrap64 (t491007 + 1)) : Int).toNat).drop (t491007 : Int).toNat) := ⟨_, rfl⟩
                            replace H : (if 0 ≤ (wrap64 (t491007 + 1)) then (if (wrap64 (t491007 + 1)) ≤ t491006 then (if t491006 ≤ (l0.length : Int) then (if 0 ≤ t491006 then (if t491006 ≤ (ji21) then (if (ji21) ≤ (l0.length : Int) then (if (ji18) ≤ t491007 then (if t491007 ≤ (l0.length : Int) then (if 0 ≤ t491008 then ((slices_Concat_int64_int64.f (([y491009, y491014, y491019, ((l0.take (t491006 : Int).toNat).drop ((wrap64 (t491007 + 1)) : Int).toNat), ((l0.take ((ji21) : Int).toNat).drop (t491006 : Int).toNat), ((l0.take (t491007 : Int).toNat).drop ((ji18) : Int).toNat), (l0.drop (t491008 : Int).toNat)] : List (List Int)))).bind fun t491047 => ((impl_normal.f t491047).bind fun t491050 => (some (t491050, 0)))) else (none)) else (none)) else (none)) else (none)) else (none)) else (none)) else (none)) else (none)) else (none)) = some (r1, r2) := by first | (rw [hy491019]; with_reducible exact H) | (have H2_ := (Option.bind_some _ _).symm.trans H; rw [hy491019]; with_reducible exact H2_) | (have H2_ := (Option.bind_some _ _).symm.trans H; with_reducible exact H2_) | with_reducible exact H | (rw [hy491019]; exact H) | exact H
                            have Ny491019 := Aside0.mk hy491019
                            clear hy491019
                            obtain ⟨ji28, hji28⟩ : ∃ j_ : Int, (wrap64 (t491007 + 1)) = j_ := ⟨_, rfl⟩
                            replace H : (if 0 ≤ (ji28) then (if (ji28) ≤ t491006 then (if t491006 ≤ (l0.length : Int) then (if 0 ≤ t491006 then (if t491006 ≤ (ji21) then (if (ji21) ≤ (l0.length : Int) then (if (ji18) ≤ t491007 then (if t491007 ≤ (l0.length : Int) then (if 0 ≤ t491008 then ((slices_Concat_int64_int64.f (([y491009, y491014, y491019, ((l0.take (t491006 : Int).toNat).drop ((ji28) : Int).toNat), ((l0.take ((ji21) : Int).toNat).drop (t491006 : Int).toNat), ((l0.take (t491007 : Int).toNat).drop ((ji18) : Int).toNat), (l0.drop (t491008 : Int).toNat)] : List (List Int)))).bind fun t491047 => ((impl_normal.f t491047).bind fun t491050 => (some (t491050, 0)))) else (none)) else (none)) else (none)) else (none)) else (none)) else (none)) else (none)) else (none)) else (none)) = some (r1, r2) := by first | (rw [hji28] at H; exact H) | (simp only [hji28] at H ⊢; exact H)
                            (try rw [hji28] at c26b0)
                            (try rw [hji28] at c26b1)
                            (try rw [hji28] at c26)
                            (try rw [hji28] at c27b0)
                            (try rw [hji28] at c27b1)
                            (try rw [hji28] at c27)
                            (try rw [hji28] at A12)
                            (try rw [hji28] at A15)
                            (try rw [hji28] at A17)
                            (try rw [hji28] at Ny491019)
                            have hji28w : (IntKind.i64.wrap (t491007 + 1)) = ji28 := (i64_w _).trans hji28
                            by_cases c29 : 0 ≤ (ji28)
                            · rw [if_pos c29] at H
                              have c29b0 := eq_true c29
                              have c29b1 : decide (0 ≤ (ji28)) = true := decide_eq_true c29
                              clear c29
                              by_cases c30 : (ji28) ≤ t491006
                              · rw [if_pos c30] at H
                                have c30b0 := eq_true c30
                                have c30b1 : decide ((ji28) ≤ t491006) = true := decide_eq_true c30
                                clear c30
                                by_cases c31 : t491006 ≤ (l0.length : Int)
                                · rw [if_pos c31] at H
                                  have c31b0 := eq_true c31
                                  have c31b1 : decide (t491006 ≤ (l0.length : Int)) = true := decide_eq_true c31
                                  clear c31
                                  obtain ⟨y491024, hy491024⟩ : ∃ y_ : List Int, y_ = ((l0.take (t491006 : Int).toNat).drop ((ji28) : Int).toNat) := ⟨_, rfl⟩
                                  replace H : (if 0 ≤ t491006 then (if t491006 ≤ (ji21) then (if (ji21) ≤ (l0.length : Int) then (if (ji18) ≤ t491007 then (if t491007 ≤ (l0.length : Int) then (if 0 ≤ t491008 then ((slices_Concat_int64_int64.f (([y491009, y491014, y491019, y491024, ((l0.take ((ji21) : Int).toNat).drop (t491006 : Int).toNat), ((l0.take (t491007 : Int).toNat).drop ((ji18) : Int).toNat), (l0.drop (t491008 : Int).toNat)] : List (List Int)))).bind fun t491047 => ((impl_normal.f t491047).bind fun t491050 => (some (t491050, 0)))) else (none)) else (none)) else (none)) else (none)) else (none)) else (none)) = some (r1, r2) := by first | (rw [hy491024]; with_reducible exact H) | (have H2_ := (Option.bind_some _ _).symm.trans H; rw [hy491024]; with_reducible exact H2_) | (have H2_ := (Option.bind_some _ _).symm.trans H; with_reducible exact H2_) | with_reducible exact H | (rw [hy491024]; exact H) | exact H
                                  have Ny491024 := Aside0.mk hy491024
                                  clear hy491024
                                  by_cases c32 : 0 ≤ t491006
                                  · rw [if_pos c32] at H
                                    have c32b0 := eq_true c32
                                    have c32b1 : decide (0 ≤ t491006) = true := decide_eq_true c32
                                    clear c32
                                    by_cases c33 : t491006 ≤ (ji21)
                                    · rw [if_pos c33] at H
                                      have c33b0 := eq_true c33
                                      have c33b1 : decide (t491006 ≤ (ji21)) = true := decide_eq_true c33
                                      clear c33
                                      by_cases c34 : (ji21) ≤ (l0.length : Int)
                                      · rw [if_pos c34] at H
                                        have c34b0 := eq_true c34
                                        have c34b1 : decide ((ji21) ≤ (l0.length : Int)) = true := decide_eq_true c34
                                        clear c34
                                        obtain ⟨y491029, hy491029⟩ : ∃ y_ : List Int, y_ = ((l0.take ((ji21) : Int).toNat).drop (t491006 : Int).toNat) := ⟨_, rfl⟩
                                        replace H : (if (ji18) ≤ t491007 then (if t491007 ≤ (l0.length : Int) then (if 0 ≤ t491008 then ((slices_Concat_int64_int64.f (([y491009, y491014, y491019, y491024, y491029, ((l0.take (t491007 : Int).toNat).drop ((ji18) : Int).toNat), (l0.drop (t491008 : Int).toNat)] : List (List Int)))).bind fun t491047 => ((impl_normal.f t491047).bind fun t491050 => (some (t491050, 0)))) else (none)) else (none)) else (none)) = some (r1, r2) := by first | (rw [hy491029]; with_reducible exact H) | (have H2_ := (Option.bind_some _ _).symm.trans H; rw [hy491029]; with_reducible exact H2_) | (have H2_ := (Option.bind_some _ _).symm.trans H; with_reducible exact H2_) | with_reducible exact H | (rw [hy491029]; exact H) | exact H
                                        have Ny491029 := Aside0.mk hy491029
                                        clear hy491029
                                        have c35b0 := eq_true (of_decide_eq_true (by first | (with_reducible assumption) | assumption) : 0 ≤ (ji18))
                                        by_cases c36 : (ji18) ≤ t491007
                                        · rw [if_pos c36] at H
                                          have c36b0 := eq_true c36
                                          have c36b1 : decide ((ji18) ≤ t491007) = true := decide_eq_true c36
                                          clear c36
                                          by_cases c37 : t491007 ≤ (l0.length : Int)
                                          · rw [if_pos c37] at H
                                            have c37b0 := eq_true c37
                                            have c37b1 : decide (t491007 ≤ (l0.length : Int)) = true := decide_eq_true c37
                                            clear c37
                                            obtain ⟨y491034, hy491034⟩ : ∃ y_ : List Int, y_ = ((l0.take (t491007 : Int).toNat).drop ((ji18) : Int).toNat) := ⟨_, rfl⟩
                                            replace H : (if 0 ≤ t491008 then ((slices_Concat_int64_int64.f (([y491009, y491014, y491019, y491024, y491029, y491034, (l0.drop (t491008 : Int).toNat)] : List (List Int)))).bind fun t491047 => ((impl_normal.f t491047).bind fun t491050 => (some (t491050, 0)))) else (none)) = some (r1, r2) := by first | (rw [hy491034]; with_reducible exact H) | (have H2_ := (Option.bind_some _ _).symm.trans H; rw [hy491034]; with_reducible exact H2_) | (have H2_ := (Option.bind_some _ _).symm.trans H; with_reducible exact H2_) | with_reducible exact H | (rw [hy491034]; exact H) | exact H
                                            have Ny491034 := Aside0.mk hy491034
                                            clear hy491034
                                            by_cases c38 : 0 ≤ t491008
                                            · rw [if_pos c38] at H
                                              have c38b0 := eq_true c38
                                              have c38b1 : decide (0 ≤ t491008) = true := decide_eq_true c38
                                              clear c38
                                              have c39b0 := eq_true (of_decide_eq_true (by first | (with_reducible assumption) | assumption) : t491008 ≤ (l0.length : Int))
                                              obtain ⟨y491039, hy491039⟩ : ∃ y_ : List Int, y_ = (l0.drop (t491008 : Int).toNat) := ⟨_, rfl⟩
                                              replace H : ((slices_Concat_int64_int64.f (([y491009, y491014, y491019, y491024, y491029, y491034, y491039] : List (List Int)))).bind fun t491047 => ((impl_normal.f t491047).bind fun t491050 => (some (t491050, 0)))) = some (r1, r2) := by first | (rw [hy491039]; with_reducible exact H) | (have H2_ := (Option.bind_some _ _).symm.trans H; rw [hy491039]; with_reducible exact H2_) | (have H2_ := (Option.bind_some _ _).symm.trans H; with_reducible exact H2_) | with_reducible exact H | (rw [hy491039]; exact H) | exact H
                                              have Ny491039 := Aside0.mk hy491039
                                              clear hy491039
                                              obtain ⟨y491044, hy491044⟩ : ∃ y_ : List (List Int), y_ = (([y491009, y491014, y491019, y491024, y491029, y491034, y491039] : List (List Int))) := ⟨_, rfl⟩
                                              replace H : ((slices_Concat_int64_int64.f y491044).bind fun t491047 => ((impl_normal.f t491047).bind fun t491050 => (some (t491050, 0)))) = some (r1, r2) := by first | (rw [hy491044]; with_reducible exact H) | (have H2_ := (Option.bind_some _ _).symm.trans H; rw [hy491044]; with_reducible exact H2_) | (have H2_ := (Option.bind_some _ _).symm.trans H; with_reducible exact H2_) | with_reducible exact H | (rw [hy491044]; exact H) | exact H
                                              have Ny491044 := Aside0.mk hy491044
                                              clear hy491044
                                              replace H := Option.bind_eq_some_iff.mp H
                                              obtain ⟨t491047, A400, H⟩ := H
                                              replace H : ((impl_normal.f t491047).bind fun t491050 => (some (t491050, 0))) = some (r1, r2) := H
                                              have A40 := Aside0.mk A400
                                              clear A400
                                              replace H := Option.bind_eq_some_iff.mp H
                                              obtain ⟨t491050, A410, H⟩ := H
                                              replace H : (some (t491050, 0)) = some (r1, r2) := H
                                              have A41 := Aside0.mk A410
                                              clear A410
                                              simp only [Option.some.injEq, Prod.mk.injEq] at H
                                              obtain ⟨rfl, rfl⟩ := H
                                              try go_wp2_with (first | ((with_reducible refine gate_callee (f := 113) rfl ?_); refine goesL_ (some 31) rfl rfl Try.func113 (by kernel_rfl) rfl #[.slice A0 l0.length c0, .int .i64 a1, .int .i64 a2] rfl (by (try simp only [List.map_toArray, List.map_cons, List.map_nil]); first | done | rfl | (simp only [List.length_drop, List.length_take]; rfl)) ?_; (with_reducible refine (impl_cross.calls kj5 _ _ l0 a1 a2 true _ ?side1 ?side2 A12.out).mono ?_); (case side1 => repeat (first | exact (Kd.V_reads' HO_0.out).2.2 | (with_reducible refine Kd.C_alloc ?_ _) | (with_reducible refine Kd.C_drewN ?_ _) | (with_reducible refine Kd.C_drew ?_))); (case side2 => exact (Kd.V_reads' HO_0.out).2.1); rintro e w' ⟨rfl, ⟨nd, rfl⟩⟩; refine ⟨_, rfl, ?_⟩) | ((with_reducible refine gate_callee (f := 104) rfl ?_); refine goesL_ (some 38) rfl rfl Try.func104 (by kernel_rfl) rfl #[.slice A0 l0.length c0, .int .i64 ji14] rfl (by (try simp only [List.map_toArray, List.map_cons, List.map_nil]); first | done | (simp only [hji14]; rfl) | rfl | (simp only [List.length_drop, List.length_take]; rfl)) ?_; (with_reducible refine (impl_places.calls kj5 _ _ l0 ji14 t491005 t491006 _ ?side1 ?side2 A15.out).mono ?_); (case side1 => repeat (first | exact (Kd.V_reads' HO_0.out).2.2 | (with_reducible refine Kd.C_alloc ?_ _) | (with_reducible refine Kd.C_drewN ?_ _) | (with_reducible refine Kd.C_drew ?_))); (case side2 => exact (Kd.V_reads' HO_0.out).2.1); rintro e w' ⟨rfl, ⟨nd, rfl⟩⟩; refine ⟨_, rfl, ?_⟩) | ((with_reducible refine gate_callee (f := 104) rfl ?_); refine goesL_ (some 46) rfl rfl Try.func104 (by kernel_rfl) rfl #[.slice A0 l0.length c0, .int .i64 ji16] rfl (by (try simp only [List.map_toArray, List.map_cons, List.map_nil]); first | done | (simp only [hji16]; rfl) | rfl | (simp only [List.length_drop, List.length_take]; rfl)) ?_; (with_reducible refine (impl_places.calls kj5 _ _ l0 ji16 t491007 t491008 _ ?side1 ?side2 A17.out).mono ?_); (case side1 => repeat (first | exact (Kd.V_reads' HO_0.out).2.2 | (with_reducible refine Kd.C_alloc ?_ _) | (with_reducible refine Kd.C_drewN ?_ _) | (with_reducible refine Kd.C_drew ?_))); (case side2 => exact (Kd.V_reads' HO_0.out).2.1); rintro e w' ⟨rfl, ⟨nd, rfl⟩⟩; refine ⟨_, rfl, ?_⟩))
                                              (try (rw [drewN_self wc]; generalize hq_ : World.drewN wc _ = wc; have n0_ : Aside0 (Kd.V (Kd.int .i64) 2 wc w.heap.size (fun k_ => (P0_ k_ ∨ w.heap.size ≤ k_)) (.slice A0 l0.length c0) l0) := ⟨by rw [← hq_]; exact (by (with_reducible repeat (first | apply Kd.V_alloc | apply Kd.V_drewN | apply Kd.V_drew)); exact HO_0.out)⟩; have n1_ : Aside0 (Below w.heap.size w wc) := ⟨by rw [← hq_]; exact (by repeat (first | (with_reducible first | exact HB.out | apply below_alloc | apply pw_below_drewN | apply below_drew1) | exact HB.out))⟩; clear HO_0 HB hq_; have HO_0 := n0_; have HB := n1_; clear n0_ n1_))
                                              have n0_ := Aside0.mk (Kd.V_drew HO_0.out)
                                              have n1_ := Aside0.mk (below_drew1 HB.out)
                                              clear HO_0
                                              clear HB
                                              have HO_0 := n0_
                                              have HB := n1_
                                              clear n0_ n1_
                                              have q43 : ((ji18) : Int) ≤ ((l0.length : Int) : Int) := of_decide_eq_true (by first | (with_reducible assumption) | assumption)
                                              obtain ⟨i043, hi043, _, hsz43, _⟩ := info_parts info2
                                              have hroom43 : l0.length ≤ c0 := (Kd.V_reads' HO_0.out).2.1
                                              have hC43 : Kd.F (Kd.int .i64) _ _ A0 l0.length l0 := (Kd.V_at (base := w.heap.size) HO_0.out).2.2
                                              have hcut43 := cut_to (P := Try.prog) 22 2 .i64 Try.underlying22 hi043 A0 l0.length c0 (ji18) (of_decide_eq_true (by first | (with_reducible assumption) | assumption)) q43 hroom43
                                              have hr43 := Kd.F_take (m := ((ji18) : Int).toNat) hC43 (by omega)
                                              have hy43 : y491009.length = ((ji18) : Int).toNat := (by rw [Ny491009.out, List.length_take]; omega)
                                              rw [← Ny491009.out] at hr43
                                              rw [← hy43] at hcut43
                                              have HO491013 := Aside0.mk (show Kd.V (Kd.int .i64) 2 _ w.heap.size _ (.slice A0 y491009.length c0) y491009 from Kd.V_mk (by omega) hr43)
                                              have HC491013 := Aside0.mk (show y491009.length ≤ c0 from by omega)
                                              clear hr43 hC43 hroom43 hi043 hsz43
                                              have KY43 := Aside0.mk hy43
                                              clear hy43
                                              replace q43 := eq_true q43
                                              have q44 : (t491008 : Int) ≤ ((l0.length : Int) : Int) := of_decide_eq_true (by first | (with_reducible assumption) | assumption)
                                              obtain ⟨i044, hi044, _, hsz44, _⟩ := info_parts info2
                                              have hroom44 : l0.length ≤ c0 := (Kd.V_reads' HO_0.out).2.1
                                              have hC44 : Kd.F (Kd.int .i64) _ _ A0 l0.length l0 := (Kd.V_at (base := w.heap.size) HO_0.out).2.2
                                              have ql44 : ((ji21) : Int) ≤ (t491008 : Int) := of_decide_eq_true (by first | (with_reducible assumption) | assumption)
                                              have q044 : (0 : Int) ≤ ((ji21) : Int) := of_decide_eq_true (by first | (with_reducible assumption) | assumption)
                                              have hcut44 := cut_mid (P := Try.prog) 22 2 .i64 .i64 Try.underlying22 hi044 1 hsz44 A0 l0.length c0 (ji21) t491008 q044 ql44 q44 hroom44
                                              have hr44 := Kd.F_mid (lo := ((ji21) : Int).toNat) (hi := (t491008 : Int).toNat) (c := c0) hC44 (by omega) (by omega) hroom44
                                              obtain ⟨A44, hA44⟩ : ∃ A1, A1 = (if c0 = ((ji21) : Int).toNat then A0 else (A0 : Option Addr).map (·.add (((ji21) : Int).toNat * 1))) := ⟨_, rfl⟩
                                              obtain ⟨c44, hc44⟩ : ∃ c1, c1 = c0 - ((ji21) : Int).toNat := ⟨_, rfl⟩
                                              have hy44 : y491014.length = (t491008 : Int).toNat - ((ji21) : Int).toNat := (by rw [Ny491014.out, List.length_drop, List.length_take] <;> omega)
                                              rw [show ((l0).take (t491008 : Int).toNat).drop ((ji21) : Int).toNat = y491014 from Ny491014.out.symm] at hr44
                                              replace hr44 : Kd.F (Kd.int .i64) _ _ A44 y491014.length y491014 := (by rw [hA44]; exact hr44)
                                              rw [← hy44, ← hA44, ← hc44] at hcut44
                                              have HO491018 := Aside0.mk (show Kd.V (Kd.int .i64) 2 _ w.heap.size _ (.slice A44 y491014.length c44) y491014 from Kd.V_mk (by rw [hy44, hc44]; exact Nat.sub_le_sub_right (Nat.le_trans (by omega) hroom44) _) hr44)
                                              have HC491018 := Aside0.mk (show y491014.length ≤ c44 from by rw [hy44, hc44]; exact Nat.sub_le_sub_right (Nat.le_trans (by omega) hroom44) _)
                                              clear hr44 hC44 hroom44 hi044 hsz44 hc44
                                              have KY44 := Aside0.mk hy44
                                              have KA44 := Aside0.mk hA44
                                              clear hy44 hA44
                                              replace q44 := eq_true q44
                                              have q45 : ((ji28) : Int) ≤ ((l0.length : Int) : Int) := of_decide_eq_true (by first | (with_reducible assumption) | assumption)
                                              obtain ⟨i045, hi045, _, hsz45, _⟩ := info_parts info2
                                              have hroom45 : l0.length ≤ c0 := (Kd.V_reads' HO_0.out).2.1
                                              have hC45 : Kd.F (Kd.int .i64) _ _ A0 l0.length l0 := (Kd.V_at (base := w.heap.size) HO_0.out).2.2
                                              have ql45 : (t491007 : Int) ≤ ((ji28) : Int) := of_decide_eq_true (by first | (with_reducible assumption) | assumption)
                                              have q045 : (0 : Int) ≤ (t491007 : Int) := of_decide_eq_true (by first | (with_reducible assumption) | assumption)
                                              have hcut45 := cut_mid (P := Try.prog) 22 2 .i64 .i64 Try.underlying22 hi045 1 hsz45 A0 l0.length c0 t491007 (ji28) q045 ql45 q45 hroom45
                                              have hr45 := Kd.F_mid (lo := (t491007 : Int).toNat) (hi := ((ji28) : Int).toNat) (c := c0) hC45 (by omega) (by omega) hroom45
                                              obtain ⟨A45, hA45⟩ : ∃ A1, A1 = (if c0 = (t491007 : Int).toNat then A0 else (A0 : Option Addr).map (·.add ((t491007 : Int).toNat * 1))) := ⟨_, rfl⟩
                                              obtain ⟨c45, hc45⟩ : ∃ c1, c1 = c0 - (t491007 : Int).toNat := ⟨_, rfl⟩
                                              have hy45 : y491019.length = ((ji28) : Int).toNat - (t491007 : Int).toNat := (by rw [Ny491019.out, List.length_drop, List.length_take] <;> omega)
                                              rw [show ((l0).take ((ji28) : Int).toNat).drop (t491007 : Int).toNat = y491019 from Ny491019.out.symm] at hr45
                                              replace hr45 : Kd.F (Kd.int .i64) _ _ A45 y491019.length y491019 := (by rw [hA45]; exact hr45)
                                              rw [← hy45, ← hA45, ← hc45] at hcut45
                                              have HO491023 := Aside0.mk (show Kd.V (Kd.int .i64) 2 _ w.heap.size _ (.slice A45 y491019.length c45) y491019 from Kd.V_mk (by rw [hy45, hc45]; exact Nat.sub_le_sub_right (Nat.le_trans (by omega) hroom45) _) hr45)
                                              have HC491023 := Aside0.mk (show y491019.length ≤ c45 from by rw [hy45, hc45]; exact Nat.sub_le_sub_right (Nat.le_trans (by omega) hroom45) _)
                                              clear hr45 hC45 hroom45 hi045 hsz45 hc45
                                              have KY45 := Aside0.mk hy45
                                              have KA45 := Aside0.mk hA45
                                              clear hy45 hA45
                                              replace q45 := eq_true q45
                                              have q46 : (t491006 : Int) ≤ ((l0.length : Int) : Int) := of_decide_eq_true (by first | (with_reducible assumption) | assumption)
                                              obtain ⟨i046, hi046, _, hsz46, _⟩ := info_parts info2
                                              have hroom46 : l0.length ≤ c0 := (Kd.V_reads' HO_0.out).2.1
                                              have hC46 : Kd.F (Kd.int .i64) _ _ A0 l0.length l0 := (Kd.V_at (base := w.heap.size) HO_0.out).2.2
                                              have ql46 : ((ji28) : Int) ≤ (t491006 : Int) := of_decide_eq_true (by first | (with_reducible assumption) | assumption)
                                              have q046 : (0 : Int) ≤ ((ji28) : Int) := of_decide_eq_true (by first | (with_reducible assumption) | assumption)
                                              have hcut46 := cut_mid (P := Try.prog) 22 2 .i64 .i64 Try.underlying22 hi046 1 hsz46 A0 l0.length c0 (ji28) t491006 q046 ql46 q46 hroom46
                                              have hr46 := Kd.F_mid (lo := ((ji28) : Int).toNat) (hi := (t491006 : Int).toNat) (c := c0) hC46 (by omega) (by omega) hroom46
                                              obtain ⟨A46, hA46⟩ : ∃ A1, A1 = (if c0 = ((ji28) : Int).toNat then A0 else (A0 : Option Addr).map (·.add (((ji28) : Int).toNat * 1))) := ⟨_, rfl⟩
                                              obtain ⟨c46, hc46⟩ : ∃ c1, c1 = c0 - ((ji28) : Int).toNat := ⟨_, rfl⟩
                                              have hy46 : y491024.length = (t491006 : Int).toNat - ((ji28) : Int).toNat := (by rw [Ny491024.out, List.length_drop, List.length_take] <;> omega)
                                              rw [show ((l0).take (t491006 : Int).toNat).drop ((ji28) : Int).toNat = y491024 from Ny491024.out.symm] at hr46
                                              replace hr46 : Kd.F (Kd.int .i64) _ _ A46 y491024.length y491024 := (by rw [hA46]; exact hr46)
                                              rw [← hy46, ← hA46, ← hc46] at hcut46
                                              have HO491028 := Aside0.mk (show Kd.V (Kd.int .i64) 2 _ w.heap.size _ (.slice A46 y491024.length c46) y491024 from Kd.V_mk (by rw [hy46, hc46]; exact Nat.sub_le_sub_right (Nat.le_trans (by omega) hroom46) _) hr46)
                                              have HC491028 := Aside0.mk (show y491024.length ≤ c46 from by rw [hy46, hc46]; exact Nat.sub_le_sub_right (Nat.le_trans (by omega) hroom46) _)
                                              clear hr46 hC46 hroom46 hi046 hsz46 hc46
                                              have KY46 := Aside0.mk hy46
                                              have KA46 := Aside0.mk hA46
                                              clear hy46 hA46
                                              replace q46 := eq_true q46
                                              have q47 : ((ji21) : Int) ≤ ((l0.length : Int) : Int) := of_decide_eq_true (by first | (with_reducible assumption) | assumption)
                                              obtain ⟨i047, hi047, _, hsz47, _⟩ := info_parts info2
                                              have hroom47 : l0.length ≤ c0 := (Kd.V_reads' HO_0.out).2.1
                                              have hC47 : Kd.F (Kd.int .i64) _ _ A0 l0.length l0 := (Kd.V_at (base := w.heap.size) HO_0.out).2.2
                                              have ql47 : (t491006 : Int) ≤ ((ji21) : Int) := of_decide_eq_true (by first | (with_reducible assumption) | assumption)
                                              have q047 : (0 : Int) ≤ (t491006 : Int) := of_decide_eq_true (by first | (with_reducible assumption) | assumption)
                                              have hcut47 := cut_mid (P := Try.prog) 22 2 .i64 .i64 Try.underlying22 hi047 1 hsz47 A0 l0.length c0 t491006 (ji21) q047 ql47 q47 hroom47
                                              have hr47 := Kd.F_mid (lo := (t491006 : Int).toNat) (hi := ((ji21) : Int).toNat) (c := c0) hC47 (by omega) (by omega) hroom47
                                              obtain ⟨A47, hA47⟩ : ∃ A1, A1 = (if c0 = (t491006 : Int).toNat then A0 else (A0 : Option Addr).map (·.add ((t491006 : Int).toNat * 1))) := ⟨_, rfl⟩
                                              obtain ⟨c47, hc47⟩ : ∃ c1, c1 = c0 - (t491006 : Int).toNat := ⟨_, rfl⟩
                                              have hy47 : y491029.length = ((ji21) : Int).toNat - (t491006 : Int).toNat := (by rw [Ny491029.out, List.length_drop, List.length_take] <;> omega)
                                              rw [show ((l0).take ((ji21) : Int).toNat).drop (t491006 : Int).toNat = y491029 from Ny491029.out.symm] at hr47
                                              replace hr47 : Kd.F (Kd.int .i64) _ _ A47 y491029.length y491029 := (by rw [hA47]; exact hr47)
                                              rw [← hy47, ← hA47, ← hc47] at hcut47
                                              have HO491033 := Aside0.mk (show Kd.V (Kd.int .i64) 2 _ w.heap.size _ (.slice A47 y491029.length c47) y491029 from Kd.V_mk (by rw [hy47, hc47]; exact Nat.sub_le_sub_right (Nat.le_trans (by omega) hroom47) _) hr47)
                                              have HC491033 := Aside0.mk (show y491029.length ≤ c47 from by rw [hy47, hc47]; exact Nat.sub_le_sub_right (Nat.le_trans (by omega) hroom47) _)
                                              clear hr47 hC47 hroom47 hi047 hsz47 hc47
                                              have KY47 := Aside0.mk hy47
                                              have KA47 := Aside0.mk hA47
                                              clear hy47 hA47
                                              replace q47 := eq_true q47
                                              have q48 : (t491007 : Int) ≤ ((l0.length : Int) : Int) := of_decide_eq_true (by first | (with_reducible assumption) | assumption)
                                              obtain ⟨i048, hi048, _, hsz48, _⟩ := info_parts info2
                                              have hroom48 : l0.length ≤ c0 := (Kd.V_reads' HO_0.out).2.1
                                              have hC48 : Kd.F (Kd.int .i64) _ _ A0 l0.length l0 := (Kd.V_at (base := w.heap.size) HO_0.out).2.2
                                              have ql48 : ((ji18) : Int) ≤ (t491007 : Int) := of_decide_eq_true (by first | (with_reducible assumption) | assumption)
                                              have q048 : (0 : Int) ≤ ((ji18) : Int) := of_decide_eq_true (by first | (with_reducible assumption) | assumption)
                                              have hcut48 := cut_mid (P := Try.prog) 22 2 .i64 .i64 Try.underlying22 hi048 1 hsz48 A0 l0.length c0 (ji18) t491007 q048 ql48 q48 hroom48
                                              have hr48 := Kd.F_mid (lo := ((ji18) : Int).toNat) (hi := (t491007 : Int).toNat) (c := c0) hC48 (by omega) (by omega) hroom48
                                              obtain ⟨A48, hA48⟩ : ∃ A1, A1 = (if c0 = ((ji18) : Int).toNat then A0 else (A0 : Option Addr).map (·.add (((ji18) : Int).toNat * 1))) := ⟨_, rfl⟩
                                              obtain ⟨c48, hc48⟩ : ∃ c1, c1 = c0 - ((ji18) : Int).toNat := ⟨_, rfl⟩
                                              have hy48 : y491034.length = (t491007 : Int).toNat - ((ji18) : Int).toNat := (by rw [Ny491034.out, List.length_drop, List.length_take] <;> omega)
                                              rw [show ((l0).take (t491007 : Int).toNat).drop ((ji18) : Int).toNat = y491034 from Ny491034.out.symm] at hr48
                                              replace hr48 : Kd.F (Kd.int .i64) _ _ A48 y491034.length y491034 := (by rw [hA48]; exact hr48)
                                              rw [← hy48, ← hA48, ← hc48] at hcut48
                                              have HO491038 := Aside0.mk (show Kd.V (Kd.int .i64) 2 _ w.heap.size _ (.slice A48 y491034.length c48) y491034 from Kd.V_mk (by rw [hy48, hc48]; exact Nat.sub_le_sub_right (Nat.le_trans (by omega) hroom48) _) hr48)
                                              have HC491038 := Aside0.mk (show y491034.length ≤ c48 from by rw [hy48, hc48]; exact Nat.sub_le_sub_right (Nat.le_trans (by omega) hroom48) _)
                                              clear hr48 hC48 hroom48 hi048 hsz48 hc48
                                              have KY48 := Aside0.mk hy48
                                              have KA48 := Aside0.mk hA48
                                              clear hy48 hA48
                                              replace q48 := eq_true q48
                                              have q49 : (t491008 : Int) ≤ ((l0.length : Int) : Int) := of_decide_eq_true (by first | (with_reducible assumption) | assumption)
                                              obtain ⟨i049, hi049, _, hsz49, _⟩ := info_parts info2
                                              have hroom49 : l0.length ≤ c0 := (Kd.V_reads' HO_0.out).2.1
                                              have hC49 : Kd.F (Kd.int .i64) _ _ A0 l0.length l0 := (Kd.V_at (base := w.heap.size) HO_0.out).2.2
                                              have q049 : (0 : Int) ≤ (t491008 : Int) := of_decide_eq_true (by first | (with_reducible assumption) | assumption)
                                              have hcut49 := cut_from (P := Try.prog) 22 2 .i64 Try.underlying22 hi049 1 hsz49 A0 l0.length c0 t491008 q049 q49
                                              have hr49 := Kd.F_cut (m := (t491008 : Int).toNat) (c := c0) hC49 (by omega) hroom49
                                              obtain ⟨A49, hA49⟩ : ∃ A1, A1 = (if c0 = (t491008 : Int).toNat then A0 else (A0 : Option Addr).map (·.add ((t491008 : Int).toNat * 1))) := ⟨_, rfl⟩
                                              obtain ⟨c49, hc49⟩ : ∃ c1, c1 = c0 - (t491008 : Int).toNat := ⟨_, rfl⟩
                                              have hy49 : y491039.length = l0.length - (t491008 : Int).toNat := (by rw [Ny491039.out, List.length_drop] <;> omega)
                                              rw [show (l0).drop (t491008 : Int).toNat = y491039 from Ny491039.out.symm] at hr49
                                              replace hr49 : Kd.F (Kd.int .i64) _ _ A49 y491039.length y491039 := (by rw [hA49]; exact hr49)
                                              rw [← hy49, ← hA49, ← hc49] at hcut49
                                              have HO491043 := Aside0.mk (show Kd.V (Kd.int .i64) 2 _ w.heap.size _ (.slice A49 y491039.length c49) y491039 from Kd.V_mk (by rw [hy49, hc49]; exact Nat.sub_le_sub_right hroom49 _) hr49)
                                              have HC491043 := Aside0.mk (show y491039.length ≤ c49 from by rw [hy49, hc49]; exact Nat.sub_le_sub_right hroom49 _)
                                              clear hr49 hC49 hroom49 hi049 hsz49 hc49
                                              have KY49 := Aside0.mk hy49
                                              have KA49 := Aside0.mk hA49
                                              clear hy49 hA49
                                              replace q49 := eq_true q49
                                              refine start_ (n := 37) (S := fun w' => True) (ds := []) #[false, false, false, false, false, false, false, false, false, false, false, false, false, false, false, false, false, false, false, false, false, false, false, false, false, false, false, false, false, false, false, false, false, false, false, false, false] (by kernel_rfl) rfl rfl trivial (fun hHeld => ?_); refine with_tabW impl_PivotWord.tab9 impl_PivotWord.bits9 (fun HT_ HW_ => ?_)
                                              generalize wc.drew = w42 at HO_0 HB HO491013 HO491018 HO491023 HO491028 HO491033 HO491038 HO491043 hHeld ⊢
                                              refine pure_ (i := 0) (N := some 49) (v := ?_) (a' := ?_) #[true, false, false, false, false, false, false, false, false, false, false, false, false, false, false, false, false, false, false, false, false, false, false, false, false, false, false, false, false, false, false, false, false, false, false, false, false] rfl rfl (any_of HT_.out (by kernel_rfl)) (fun _ _ _ h => h) (Or.inl ⟨by rfl, ?_⟩) ?_ ?_
                                              rotate_left
                                              · intro w'
                                                go_simp
                                                with_reducible rfl
                                              rotate_left
                                              · simp only [Act.put, List.setIfInBounds_toArray, List.set_cons_zero, List.set_cons_succ, i64_w, i32_w]
                                                rfl
                                              refine pure_ (i := 1) (N := some 50) (v := ?_) (a' := ?_) #[true, true, false, false, false, false, false, false, false, false, false, false, false, false, false, false, false, false, false, false, false, false, false, false, false, false, false, false, false, false, false, false, false, false, false, false, false] rfl rfl (any_of HT_.out (by kernel_rfl)) (fun _ _ _ h => h) (Or.inl ⟨by rfl, ?_⟩) ?_ ?_
                                              rotate_left
                                              · intro w'
                                                go_simp
                                                with_reducible rfl
                                              rotate_left
                                              · simp only [Act.put, List.setIfInBounds_toArray, List.set_cons_zero, List.set_cons_succ, i64_w, i32_w]
                                                rfl
                                              refine pure_ (i := 2) (N := some 51) (v := ?_) (a' := ?_) #[true, true, true, false, false, false, false, false, false, false, false, false, false, false, false, false, false, false, false, false, false, false, false, false, false, false, false, false, false, false, false, false, false, false, false, false, false] rfl rfl (any_of HT_.out (by kernel_rfl)) (fun _ _ _ h => h) (Or.inl ⟨by rfl, ?_⟩) ?_ ?_
                                              rotate_left
                                              · intro w'
                                                go_simp
                                                with_reducible rfl
                                              rotate_left
                                              · simp only [Act.put, List.setIfInBounds_toArray, List.set_cons_zero, List.set_cons_succ, i64_w, i32_w]
                                                rfl
                                              refine pure_ (i := 3) (N := some 52) (v := ?_) (a' := ?_) #[true, true, true, true, false, false, false, false, false, false, false, false, false, false, false, false, false, false, false, false, false, false, false, false, false, false, false, false, false, false, false, false, false, false, false, false, false] rfl rfl (any_of HT_.out (by kernel_rfl)) (fun _ _ _ h => h) (Or.inl ⟨by rfl, ?_⟩) ?_ ?_
                                              rotate_left
                                              · intro w'
                                                go_simp
                                                with_reducible rfl
                                              rotate_left
                                              · simp only [Act.put, List.setIfInBounds_toArray, List.set_cons_zero, List.set_cons_succ, i64_w, i32_w]
                                                rfl
                                              refine pure_ (i := 4) (N := some 53) (v := ?_) (a' := ?_) #[true, true, true, true, true, false, false, false, false, false, false, false, false, false, false, false, false, false, false, false, false, false, false, false, false, false, false, false, false, false, false, false, false, false, false, false, false] rfl rfl (any_of HT_.out (by kernel_rfl)) (fun _ _ _ h => h) (Or.inl ⟨by rfl, ?_⟩) ?_ ?_
                                              rotate_left
                                              · intro w'
                                                go_simp
                                                with_reducible rfl
                                              rotate_left
                                              · simp only [Act.put, List.setIfInBounds_toArray, List.set_cons_zero, List.set_cons_succ, i64_w, i32_w]
                                                rfl
                                              refine pure_ (i := 5) (N := some 54) (v := ?_) (a' := ?_) #[true, true, true, true, true, true, false, false, false, false, false, false, false, false, false, false, false, false, false, false, false, false, false, false, false, false, false, false, false, false, false, false, false, false, false, false, false] rfl rfl (any_of HT_.out (by kernel_rfl)) (fun _ _ _ h => h) (Or.inl ⟨by rfl, ?_⟩) ?_ ?_
                                              rotate_left
                                              · intro w'
                                                go_simp
                                                with_reducible rfl
                                              rotate_left
                                              · simp only [Act.put, List.setIfInBounds_toArray, List.set_cons_zero, List.set_cons_succ, i64_w, i32_w]
                                                rfl
                                              refine pure_ (i := 6) (N := some 55) (v := ?_) (a' := ?_) #[true, true, true, true, true, true, true, false, false, false, false, false, false, false, false, false, false, false, false, false, false, false, false, false, false, false, false, false, false, false, false, false, false, false, false, false, false] rfl rfl (any_of HT_.out (by kernel_rfl)) (fun _ _ _ h => h) (Or.inl ⟨by rfl, ?_⟩) ?_ ?_
                                              rotate_left
                                              · intro w'
                                                go_simp
                                                with_reducible rfl
                                              rotate_left
                                              · simp only [Act.put, List.setIfInBounds_toArray, List.set_cons_zero, List.set_cons_succ, i64_w, i32_w]
                                                rfl
                                              refine pure_ (i := 7) (N := some 56) (v := ?_) (a' := ?_) #[true, true, true, true, true, true, true, true, false, false, false, false, false, false, false, false, false, false, false, false, false, false, false, false, false, false, false, false, false, false, false, false, false, false, false, false, false] rfl rfl (any_of HT_.out (by kernel_rfl)) (fun _ _ _ h => h) (Or.inl ⟨by rfl, ?_⟩) ?_ ?_
                                              rotate_left
                                              · intro w'
                                                go_simp
                                                with_reducible rfl
                                              rotate_left
                                              · simp only [Act.put, List.setIfInBounds_toArray, List.set_cons_zero, List.set_cons_succ, i64_w, i32_w]
                                                rfl
                                              refine pure_ (i := 8) (N := some 57) (v := ?_) (a' := ?_) #[true, true, true, true, true, true, true, true, true, false, false, false, false, false, false, false, false, false, false, false, false, false, false, false, false, false, false, false, false, false, false, false, false, false, false, false, false] rfl rfl (any_of HT_.out (by kernel_rfl)) (fun _ _ _ h => h) (Or.inl ⟨by rfl, ?_⟩) ?_ ?_
                                              rotate_left
                                              · intro w'
                                                go_simp
                                                with_reducible rfl
                                              rotate_left
                                              · simp only [Act.put, List.setIfInBounds_toArray, List.set_cons_zero, List.set_cons_succ, i64_w, i32_w]
                                                rfl
                                              refine pure_ (i := 9) (N := some 58) (v := ?_) (a' := ?_) #[true, true, true, true, true, true, true, true, true, true, false, false, false, false, false, false, false, false, false, false, false, false, false, false, false, false, false, false, false, false, false, false, false, false, false, false, false] rfl rfl (any_of HT_.out (by kernel_rfl)) (fun _ _ _ h => h) (Or.inl ⟨by rfl, ?_⟩) ?_ ?_
                                              rotate_left
                                              · intro w'
                                                go_simp
                                                with_reducible rfl
                                              rotate_left
                                              · simp only [Act.put, List.setIfInBounds_toArray, List.set_cons_zero, List.set_cons_succ, i64_w, i32_w]
                                                rfl
                                              refine pure_ (i := 10) (N := some 59) (v := ?_) (a' := ?_) #[true, true, true, true, true, true, true, true, true, true, true, false, false, false, false, false, false, false, false, false, false, false, false, false, false, false, false, false, false, false, false, false, false, false, false, false, false] rfl rfl (any_of HT_.out (by kernel_rfl)) (fun _ _ _ h => h) (Or.inl ⟨by rfl, ?_⟩) ?_ ?_
                                              rotate_left
                                              · intro w'
                                                go_simp
                                                with_reducible rfl
                                              rotate_left
                                              · simp only [Act.put, List.setIfInBounds_toArray, List.set_cons_zero, List.set_cons_succ, i64_w, i32_w]
                                                rfl
                                              refine pure_ (i := 11) (N := some 60) (v := ?_) (a' := ?_) #[true, true, true, true, true, true, true, true, true, true, true, true, false, false, false, false, false, false, false, false, false, false, false, false, false, false, false, false, false, false, false, false, false, false, false, false, false] rfl rfl (any_of HT_.out (by kernel_rfl)) (fun _ _ _ h => h) (Or.inl ⟨by rfl, ?_⟩) ?_ ?_
                                              rotate_left
                                              · intro w'
                                                go_simp
                                                with_reducible rfl
                                              rotate_left
                                              · simp only [Act.put, List.setIfInBounds_toArray, List.set_cons_zero, List.set_cons_succ, i64_w, i32_w]
                                                rfl
                                              refine pure_ (i := 12) (N := some 61) (v := ?_) (a' := ?_) #[true, true, true, true, true, true, true, true, true, true, true, true, true, false, false, false, false, false, false, false, false, false, false, false, false, false, false, false, false, false, false, false, false, false, false, false, false] rfl rfl (any_of HT_.out (by kernel_rfl)) (fun _ _ _ h => h) (Or.inl ⟨by rfl, ?_⟩) ?_ ?_
                                              rotate_left
                                              · intro w'
                                                go_simp
                                                with_reducible rfl
                                              rotate_left
                                              · simp only [Act.put, List.setIfInBounds_toArray, List.set_cons_zero, List.set_cons_succ, i64_w, i32_w]
                                                rfl
                                              refine pure_ (i := 13) (N := some 62) (v := ?_) (a' := ?_) #[true, true, true, true, true, true, true, true, true, true, true, true, true, true, false, false, false, false, false, false, false, false, false, false, false, false, false, false, false, false, false, false, false, false, false, false, false] rfl rfl (any_of HT_.out (by kernel_rfl)) (fun _ _ _ h => h) (Or.inl ⟨by rfl, ?_⟩) ?_ ?_
                                              rotate_left
                                              · intro w'
                                                go_simp
                                                with_reducible rfl
                                              rotate_left
                                              · simp only [Act.put, List.setIfInBounds_toArray, List.set_cons_zero, List.set_cons_succ, i64_w, i32_w]
                                                rfl
                                              refine pure_ (i := 14) (N := some 63) (v := ?_) (a' := ?_) #[true, true, true, true, true, true, true, true, true, true, true, true, true, true, true, false, false, false, false, false, false, false, false, false, false, false, false, false, false, false, false, false, false, false, false, false, false] rfl rfl (any_of HT_.out (by kernel_rfl)) (fun _ _ _ h => h) (Or.inl ⟨by rfl, ?_⟩) ?_ ?_
                                              rotate_left
                                              · intro w'
                                                go_simp
                                                with_reducible rfl
                                              rotate_left
                                              · simp only [Act.put, List.setIfInBounds_toArray, List.set_cons_zero, List.set_cons_succ, i64_w, i32_w]
                                                rfl
                                              refine pure_ (i := 15) (N := some 64) (v := ?_) (a' := ?_) #[true, true, true, true, true, true, true, true, true, true, true, true, true, true, true, true, false, false, false, false, false, false, false, false, false, false, false, false, false, false, false, false, false, false, false, false, false] rfl rfl (any_of HT_.out (by kernel_rfl)) (fun _ _ _ h => h) (Or.inl ⟨by rfl, ?_⟩) ?_ ?_
                                              rotate_left
                                              · intro w'
                                                go_simp
                                                with_reducible rfl
                                              rotate_left
                                              · simp only [Act.put, List.setIfInBounds_toArray, List.set_cons_zero, List.set_cons_succ, i64_w, i32_w]
                                                rfl
                                              refine pure_ (i := 16) (N := some 65) (v := ?_) (a' := ?_) #[true, true, true, true, true, true, true, true, true, true, true, true, true, true, true, true, true, false, false, false, false, false, false, false, false, false, false, false, false, false, false, false, false, false, false, false, false] rfl rfl (any_of HT_.out (by kernel_rfl)) (fun _ _ _ h => h) (Or.inl ⟨by rfl, ?_⟩) ?_ ?_
                                              rotate_left
                                              · intro w'
                                                go_simp
                                                with_reducible rfl
                                              rotate_left
                                              · simp only [Act.put, List.setIfInBounds_toArray, List.set_cons_zero, List.set_cons_succ, i64_w, i32_w]
                                                rfl
                                              refine pure_ (i := 17) (N := some 66) (v := ?_) (a' := ?_) #[true, true, true, true, true, true, true, true, true, true, true, true, true, true, true, true, true, true, false, false, false, false, false, false, false, false, false, false, false, false, false, false, false, false, false, false, false] rfl rfl (any_of HT_.out (by kernel_rfl)) (fun _ _ _ h => h) (Or.inl ⟨by rfl, ?_⟩) ?_ ?_
                                              rotate_left
                                              · intro w'
                                                go_simp
                                                with_reducible rfl
                                              rotate_left
                                              · simp only [Act.put, List.setIfInBounds_toArray, List.set_cons_zero, List.set_cons_succ, i64_w, i32_w]
                                                rfl
                                              refine pure_ (i := 18) (N := some 67) (v := ?_) (a' := ?_) #[true, true, true, true, true, true, true, true, true, true, true, true, true, true, true, true, true, true, true, false, false, false, false, false, false, false, false, false, false, false, false, false, false, false, false, false, false] rfl rfl (any_of HT_.out (by kernel_rfl)) (fun _ _ _ h => h) (Or.inl ⟨by rfl, ?_⟩) ?_ ?_
                                              rotate_left
                                              · intro w'
                                                go_simp
                                                with_reducible rfl
                                              rotate_left
                                              · simp only [Act.put, List.setIfInBounds_toArray, List.set_cons_zero, List.set_cons_succ, i64_w, i32_w]
                                                rfl
                                              refine pure_ (i := 19) (N := some 68) (v := ?_) (a' := ?_) #[true, true, true, true, true, true, true, true, true, true, true, true, true, true, true, true, true, true, true, true, false, false, false, false, false, false, false, false, false, false, false, false, false, false, false, false, false] rfl rfl (any_of HT_.out (by kernel_rfl)) (fun _ _ _ h => h) (Or.inl ⟨by rfl, ?_⟩) ?_ ?_
                                              rotate_left
                                              · intro w'
                                                go_simp
                                                with_reducible rfl
                                              rotate_left
                                              · simp only [Act.put, List.setIfInBounds_toArray, List.set_cons_zero, List.set_cons_succ, i64_w, i32_w]
                                                rfl
                                              refine pure_ (i := 20) (N := some 69) (v := ?_) (a' := ?_) #[true, true, true, true, true, true, true, true, true, true, true, true, true, true, true, true, true, true, true, true, true, false, false, false, false, false, false, false, false, false, false, false, false, false, false, false, false] rfl rfl (any_of HT_.out (by kernel_rfl)) (fun _ _ _ h => h) (Or.inl ⟨by rfl, ?_⟩) ?_ ?_
                                              rotate_left
                                              · intro w'
                                                go_simp
                                                with_reducible rfl
                                              rotate_left
                                              · simp only [Act.put, List.setIfInBounds_toArray, List.set_cons_zero, List.set_cons_succ, i64_w, i32_w]
                                                rfl
                                              refine pure_ (i := 21) (N := some 70) (v := ?_) (a' := ?_) #[true, true, true, true, true, true, true, true, true, true, true, true, true, true, true, true, true, true, true, true, true, true, false, false, false, false, false, false, false, false, false, false, false, false, false, false, false] rfl rfl (any_of HT_.out (by kernel_rfl)) (fun _ _ _ h => h) (Or.inl ⟨by rfl, ?_⟩) ?_ ?_
                                              rotate_left
                                              · intro w'
                                                go_simp
                                                with_reducible rfl
                                              rotate_left
                                              · simp only [Act.put, List.setIfInBounds_toArray, List.set_cons_zero, List.set_cons_succ, i64_w, i32_w]
                                                rfl
                                              refine pure_ (i := 22) (N := some 71) (v := ?_) (a' := ?_) #[true, true, true, true, true, true, true, true, true, true, true, true, true, true, true, true, true, true, true, true, true, true, true, false, false, false, false, false, false, false, false, false, false, false, false, false, false] rfl rfl (any_of HT_.out (by kernel_rfl)) (fun _ _ _ h => h) (Or.inl ⟨by rfl, ?_⟩) ?_ ?_
                                              rotate_left
                                              · intro w'
                                                go_simp
                                                with_reducible rfl
                                              rotate_left
                                              · simp only [Act.put, List.setIfInBounds_toArray, List.set_cons_zero, List.set_cons_succ, i64_w, i32_w]
                                                rfl
                                              refine pure_ (i := 23) (N := some 72) (v := ?_) (a' := ?_) #[true, true, true, true, true, true, true, true, true, true, true, true, true, true, true, true, true, true, true, true, true, true, true, true, false, false, false, false, false, false, false, false, false, false, false, false, false] rfl rfl (any_of HT_.out (by kernel_rfl)) (fun _ _ _ h => h) (Or.inl ⟨by rfl, ?_⟩) ?_ ?_
                                              rotate_left
                                              · intro w'
                                                go_simp
                                                with_reducible rfl
                                              rotate_left
                                              · simp only [Act.put, List.setIfInBounds_toArray, List.set_cons_zero, List.set_cons_succ, i64_w, i32_w]
                                                rfl
                                              refine pure_ (i := 24) (N := some 73) (v := ?_) (a' := ?_) #[true, true, true, true, true, true, true, true, true, true, true, true, true, true, true, true, true, true, true, true, true, true, true, true, true, false, false, false, false, false, false, false, false, false, false, false, false] rfl rfl (any_of HT_.out (by kernel_rfl)) (fun _ _ _ h => h) (Or.inl ⟨by rfl, ?_⟩) ?_ ?_
                                              rotate_left
                                              · intro w'
                                                go_simp
                                                with_reducible rfl
                                              rotate_left
                                              · simp only [Act.put, List.setIfInBounds_toArray, List.set_cons_zero, List.set_cons_succ, i64_w, i32_w]
                                                rfl
                                              refine pure_ (i := 25) (N := some 74) (v := ?_) (a' := ?_) #[true, true, true, true, true, true, true, true, true, true, true, true, true, true, true, true, true, true, true, true, true, true, true, true, true, true, false, false, false, false, false, false, false, false, false, false, false] rfl rfl (any_of HT_.out (by kernel_rfl)) (fun _ _ _ h => h) (Or.inl ⟨by rfl, ?_⟩) ?_ ?_
                                              rotate_left
                                              · intro w'
                                                go_simp
                                                with_reducible rfl
                                              rotate_left
                                              · simp only [Act.put, List.setIfInBounds_toArray, List.set_cons_zero, List.set_cons_succ, i64_w, i32_w]
                                                rfl
                                              refine pure_ (i := 26) (N := some 75) (v := ?_) (a' := ?_) #[true, true, true, true, true, true, true, true, true, true, true, true, true, true, true, true, true, true, true, true, true, true, true, true, true, true, true, false, false, false, false, false, false, false, false, false, false] rfl rfl (any_of HT_.out (by kernel_rfl)) (fun _ _ _ h => h) (Or.inl ⟨by rfl, ?_⟩) ?_ ?_
                                              rotate_left
                                              · intro w'
                                                go_simp
                                                with_reducible rfl
                                              rotate_left
                                              · simp only [Act.put, List.setIfInBounds_toArray, List.set_cons_zero, List.set_cons_succ, i64_w, i32_w]
                                                rfl
                                              refine pure_ (i := 27) (N := some 76) (v := ?_) (a' := ?_) #[true, true, true, true, true, true, true, true, true, true, true, true, true, true, true, true, true, true, true, true, true, true, true, true, true, true, true, true, false, false, false, false, false, false, false, false, false] rfl rfl (any_of HT_.out (by kernel_rfl)) (fun _ _ _ h => h) (Or.inl ⟨by rfl, ?_⟩) ?_ ?_
                                              rotate_left
                                              · intro w'
                                                go_simp
                                                with_reducible rfl
                                              rotate_left
                                              · simp only [Act.put, List.setIfInBounds_toArray, List.set_cons_zero, List.set_cons_succ, i64_w, i32_w]
                                                rfl
                                              refine pure_ (i := 28) (N := some 77) (v := ?_) (a' := ?_) #[true, true, true, true, true, true, true, true, true, true, true, true, true, true, true, true, true, true, true, true, true, true, true, true, true, true, true, true, true, false, false, false, false, false, false, false, false] rfl rfl (any_of HT_.out (by kernel_rfl)) (fun _ _ _ h => h) (Or.inl ⟨by rfl, ?_⟩) ?_ ?_
                                              rotate_left
                                              · intro w'
                                                go_simp
                                                with_reducible rfl
                                              rotate_left
                                              · simp only [Act.put, List.setIfInBounds_toArray, List.set_cons_zero, List.set_cons_succ, i64_w, i32_w]
                                                rfl
                                              refine pure_ (i := 29) (N := some 78) (v := ?_) (a' := ?_) #[true, true, true, true, true, true, true, true, true, true, true, true, true, true, true, true, true, true, true, true, true, true, true, true, true, true, true, true, true, true, false, false, false, false, false, false, false] rfl rfl (any_of HT_.out (by kernel_rfl)) (fun _ _ _ h => h) (Or.inl ⟨by rfl, ?_⟩) ?_ ?_
                                              rotate_left
                                              · intro w'
                                                go_simp
                                                with_reducible rfl
                                              rotate_left
                                              · simp only [Act.put, List.setIfInBounds_toArray, List.set_cons_zero, List.set_cons_succ, i64_w, i32_w]
                                                rfl
                                              refine pure_ (i := 30) (N := some 79) (v := ?_) (a' := ?_) #[true, true, true, true, true, true, true, true, true, true, true, true, true, true, true, true, true, true, true, true, true, true, true, true, true, true, true, true, true, true, true, false, false, false, false, false, false] rfl rfl (any_of HT_.out (by kernel_rfl)) (fun _ _ _ h => h) (Or.inl ⟨by rfl, ?_⟩) ?_ ?_
                                              rotate_left
                                              · intro w'
                                                go_simp
                                                with_reducible rfl
                                              rotate_left
                                              · simp only [Act.put, List.setIfInBounds_toArray, List.set_cons_zero, List.set_cons_succ, i64_w, i32_w]
                                                rfl
                                              refine pure_ (i := 31) (N := some 80) (v := ?_) (a' := ?_) #[true, true, true, true, true, true, true, true, true, true, true, true, true, true, true, true, true, true, true, true, true, true, true, true, true, true, true, true, true, true, true, true, false, false, false, false, false] rfl rfl (any_of HT_.out (by kernel_rfl)) (fun _ _ _ h => h) (Or.inl ⟨by rfl, ?_⟩) ?_ ?_
                                              rotate_left
                                              · intro w'
                                                go_simp
                                                with_reducible rfl
                                              rotate_left
                                              · simp only [Act.put, List.setIfInBounds_toArray, List.set_cons_zero, List.set_cons_succ, i64_w, i32_w]
                                                rfl
                                              refine one_ (i := 32) (N := some 81) #[true, true, true, true, true, true, true, true, true, true, true, true, true, true, true, true, true, true, true, true, true, true, true, true, true, true, true, true, true, true, true, true, true, false, false, false, false] rfl rfl (one_of HT_.out (by kernel_rfl)) (by decide) (fun K hK => ?_)
                                              refine Kd.N_lit_step (Kd.slice 2 (Kd.int .i64)) _ 22 ?hg (N' := 81) ?hd (xs := ([y491009, y491014, y491019, y491024, y491029, y491034, y491039] : List (List Int))) (inner := [.slice A0 y491009.length c0, .slice A44 y491014.length c44, .slice A45 y491019.length c45, .slice A46 y491024.length c46, .slice A47 y491029.length c47, .slice A48 y491034.length c48, .slice A49 y491039.length c49]) (ok := (fun k_ => (P0_ k_ ∨ w.heap.size ≤ k_))) (okp := (fun k_ => (P0_ k_ ∨ w.heap.size ≤ k_))) ?hr ?hp (fun _ hk => hk) ((show ∀ k_, w42.heap.size ≤ k_ → (fun k_ => (P0_ k_ ∨ w.heap.size ≤ k_)) k_ from fun k_ hk => (.inr (Nat.le_trans (below_size (by repeat (first | (with_reducible first | exact HB.out | apply below_alloc | apply pw_below_drewN | apply below_drew1) | exact HB.out))) hk))) _ (Nat.le_refl _)) (Below.refl _ _) (Nat.le_refl _) (by simp) ?_; (case hd => rfl); (case hg => rfl); (case hr => first | (go_simp; done) | (go_simp; rfl)); (case hp => exact (Reps.one (show Kd.FK (Kd.slice 2 (Kd.int .i64)) _ _ y491009 [.slice A0 y491009.length c0] from (Kd.FK_slice_mk (Kd.V_reads' (Kd.V_mono (ok' := (fun k_ => (P0_ k_ ∨ w.heap.size ≤ k_))) (HO491013.out) (fun k_ hk => hk))).2.1 (Kd.V_F (Kd.V_mono (ok' := (fun k_ => (P0_ k_ ∨ w.heap.size ≤ k_))) (HO491013.out) (fun k_ hk => hk))))) (Reps.one (show Kd.FK (Kd.slice 2 (Kd.int .i64)) _ _ y491014 [.slice A44 y491014.length c44] from (Kd.FK_slice_mk (Kd.V_reads' (Kd.V_mono (ok' := (fun k_ => (P0_ k_ ∨ w.heap.size ≤ k_))) (HO491018.out) (fun k_ hk => hk))).2.1 (Kd.V_F (Kd.V_mono (ok' := (fun k_ => (P0_ k_ ∨ w.heap.size ≤ k_))) (HO491018.out) (fun k_ hk => hk))))) (Reps.one (show Kd.FK (Kd.slice 2 (Kd.int .i64)) _ _ y491019 [.slice A45 y491019.length c45] from (Kd.FK_slice_mk (Kd.V_reads' (Kd.V_mono (ok' := (fun k_ => (P0_ k_ ∨ w.heap.size ≤ k_))) (HO491023.out) (fun k_ hk => hk))).2.1 (Kd.V_F (Kd.V_mono (ok' := (fun k_ => (P0_ k_ ∨ w.heap.size ≤ k_))) (HO491023.out) (fun k_ hk => hk))))) (Reps.one (show Kd.FK (Kd.slice 2 (Kd.int .i64)) _ _ y491024 [.slice A46 y491024.length c46] from (Kd.FK_slice_mk (Kd.V_reads' (Kd.V_mono (ok' := (fun k_ => (P0_ k_ ∨ w.heap.size ≤ k_))) (HO491028.out) (fun k_ hk => hk))).2.1 (Kd.V_F (Kd.V_mono (ok' := (fun k_ => (P0_ k_ ∨ w.heap.size ≤ k_))) (HO491028.out) (fun k_ hk => hk))))) (Reps.one (show Kd.FK (Kd.slice 2 (Kd.int .i64)) _ _ y491029 [.slice A47 y491029.length c47] from (Kd.FK_slice_mk (Kd.V_reads' (Kd.V_mono (ok' := (fun k_ => (P0_ k_ ∨ w.heap.size ≤ k_))) (HO491033.out) (fun k_ hk => hk))).2.1 (Kd.V_F (Kd.V_mono (ok' := (fun k_ => (P0_ k_ ∨ w.heap.size ≤ k_))) (HO491033.out) (fun k_ hk => hk))))) (Reps.one (show Kd.FK (Kd.slice 2 (Kd.int .i64)) _ _ y491034 [.slice A48 y491034.length c48] from (Kd.FK_slice_mk (Kd.V_reads' (Kd.V_mono (ok' := (fun k_ => (P0_ k_ ∨ w.heap.size ≤ k_))) (HO491038.out) (fun k_ hk => hk))).2.1 (Kd.V_F (Kd.V_mono (ok' := (fun k_ => (P0_ k_ ∨ w.heap.size ≤ k_))) (HO491038.out) (fun k_ hk => hk))))) (Reps.one (show Kd.FK (Kd.slice 2 (Kd.int .i64)) _ _ y491039 [.slice A49 y491039.length c49] from (Kd.FK_slice_mk (Kd.V_reads' (Kd.V_mono (ok' := (fun k_ => (P0_ k_ ∨ w.heap.size ≤ k_))) (HO491043.out) (fun k_ hk => hk))).2.1 (Kd.V_F (Kd.V_mono (ok' := (fun k_ => (P0_ k_ ∨ w.heap.size ≤ k_))) (HO491043.out) (fun k_ hk => hk))))) (Reps.none _ _)))))))))
                                              intro v491045 w50 ho51 hb hg_ hnew_
                                              clear hg_ hnew_
                                              (first | rw [← Ny491044.out] at ho51 | (simp only [Int.reduceToNat] at ho51; rw [← Ny491044.out] at ho51))
                                              have n0_ := Aside0.mk (Kd.V_elder' (by (with_reducible repeat (first | apply Kd.V_alloc | apply Kd.V_drewN | apply Kd.V_drew)); exact HO_0.out) (Kd.N_base ho51) hb)
                                              have n1_ := Aside0.mk (Kd.V_elder' (by (with_reducible repeat (first | apply Kd.V_alloc | apply Kd.V_drewN | apply Kd.V_drew)); exact HO491013.out) (Kd.N_base ho51) hb)
                                              have n2_ := Aside0.mk (Kd.V_elder' (by (with_reducible repeat (first | apply Kd.V_alloc | apply Kd.V_drewN | apply Kd.V_drew)); exact HO491018.out) (Kd.N_base ho51) hb)
                                              have n3_ := Aside0.mk (Kd.V_elder' (by (with_reducible repeat (first | apply Kd.V_alloc | apply Kd.V_drewN | apply Kd.V_drew)); exact HO491023.out) (Kd.N_base ho51) hb)
                                              have n4_ := Aside0.mk (Kd.V_elder' (by (with_reducible repeat (first | apply Kd.V_alloc | apply Kd.V_drewN | apply Kd.V_drew)); exact HO491028.out) (Kd.N_base ho51) hb)
                                              have n5_ := Aside0.mk (Kd.V_elder' (by (with_reducible repeat (first | apply Kd.V_alloc | apply Kd.V_drewN | apply Kd.V_drew)); exact HO491033.out) (Kd.N_base ho51) hb)
                                              have n6_ := Aside0.mk (Kd.V_elder' (by (with_reducible repeat (first | apply Kd.V_alloc | apply Kd.V_drewN | apply Kd.V_drew)); exact HO491038.out) (Kd.N_base ho51) hb)
                                              have n7_ := Aside0.mk (Kd.V_elder' (by (with_reducible repeat (first | apply Kd.V_alloc | apply Kd.V_drewN | apply Kd.V_drew)); exact HO491043.out) (Kd.N_base ho51) hb)
                                              have n8_ := Aside0.mk (Kd.N_lower ho51 (below_size (by repeat (first | (with_reducible first | exact HB.out | apply below_alloc | apply pw_below_drewN | apply below_drew1) | exact HB.out))))
                                              have n9_ := Aside0.mk (below_step (by repeat (first | (with_reducible first | exact HB.out | apply below_alloc | apply pw_below_drewN | apply below_drew1) | exact HB.out)) hb)
                                              clear HO_0
                                              clear HO491013
                                              clear HO491018
                                              clear HO491023
                                              clear HO491028
                                              clear HO491033
                                              clear HO491038
                                              clear HO491043
                                              clear HB
                                              have HO_0 := n0_
                                              have HO491013 := n1_
                                              have HO491018 := n2_
                                              have HO491023 := n3_
                                              have HO491028 := n4_
                                              have HO491033 := n5_
                                              have HO491038 := n6_
                                              have HO491043 := n7_
                                              have HO491046 := n8_
                                              have HB := n9_
                                              clear n0_ n1_ n2_ n3_ n4_ n5_ n6_ n7_ n8_ n9_
                                              clear hb ho51
                                              obtain ⟨Ao52, co52, eo52⟩ := Kd.N_slice HO491046.out
                                              (first | subst eo52 | (injection eo52 with f1_ f2_ f3_; have f4_ := f1_.symm; have f5_ := f3_.symm; clear f1_ f2_ f3_; subst f4_; subst f5_))
                                              refine hK.out _ _ trivial (fun hHeld => ?_)
                                              clear hK K
                                              refine norm_ (a' := ?_) ?_ ?_
                                              rotate_left
                                              · show Act.put _ (some 81) _ = _
                                                simp only [Act.put, List.setIfInBounds_toArray, List.set_cons_zero, List.set_cons_succ, i64_w, i32_w]
                                                rfl
                                              refine one_ (i := 33) (N := some 82) #[true, true, true, true, true, true, true, true, true, true, true, true, true, true, true, true, true, true, true, true, true, true, true, true, true, true, true, true, true, true, true, true, true, true, false, false, false] rfl rfl (one_of HT_.out (by kernel_rfl)) (by decide) (fun K hK => ?_)
                                              refine goes_ Try.func106 (by kernel_rfl) rfl #[.slice Ao52 y491044.length co52] (by rfl) rfl rfl (by (try simp only [List.map_toArray, List.map_cons, List.map_nil]); first | done | rfl | (simp only [List.length_drop, List.length_take]; rfl)) ?_
                                              with_reducible refine (slices_Concat_int64_int64.calls _ _ y491044 t491047 _ ?side1 ?side2 A40.out).mono ?_
                                              (case side1 => repeat (first | exact (Kd.N_reads' HO491046.out).2.2 | (with_reducible refine Kd.C_alloc ?_ _) | (with_reducible refine Kd.C_drewN ?_ _) | (with_reducible refine Kd.C_drew ?_)))
                                              (case side2 => exact (Kd.N_reads' HO491046.out).2.1)
                                              rintro e w53 ⟨v491048, rfl, ho0, hb⟩
                                              refine ⟨_, rfl, ?_⟩
                                              have n0_ := Aside0.mk (Kd.V_elder' (by (with_reducible repeat (first | apply Kd.V_alloc | apply Kd.V_drewN | apply Kd.V_drew)); exact HO_0.out) (Kd.R_base ho0) hb)
                                              have n1_ := Aside0.mk (Kd.V_elder' (by (with_reducible repeat (first | apply Kd.V_alloc | apply Kd.V_drewN | apply Kd.V_drew)); exact HO491013.out) (Kd.R_base ho0) hb)
                                              have n2_ := Aside0.mk (Kd.V_elder' (by (with_reducible repeat (first | apply Kd.V_alloc | apply Kd.V_drewN | apply Kd.V_drew)); exact HO491018.out) (Kd.R_base ho0) hb)
                                              have n3_ := Aside0.mk (Kd.V_elder' (by (with_reducible repeat (first | apply Kd.V_alloc | apply Kd.V_drewN | apply Kd.V_drew)); exact HO491023.out) (Kd.R_base ho0) hb)
                                              have n4_ := Aside0.mk (Kd.V_elder' (by (with_reducible repeat (first | apply Kd.V_alloc | apply Kd.V_drewN | apply Kd.V_drew)); exact HO491028.out) (Kd.R_base ho0) hb)
                                              have n5_ := Aside0.mk (Kd.V_elder' (by (with_reducible repeat (first | apply Kd.V_alloc | apply Kd.V_drewN | apply Kd.V_drew)); exact HO491033.out) (Kd.R_base ho0) hb)
                                              have n6_ := Aside0.mk (Kd.V_elder' (by (with_reducible repeat (first | apply Kd.V_alloc | apply Kd.V_drewN | apply Kd.V_drew)); exact HO491038.out) (Kd.R_base ho0) hb)
                                              have n7_ := Aside0.mk (Kd.V_elder' (by (with_reducible repeat (first | apply Kd.V_alloc | apply Kd.V_drewN | apply Kd.V_drew)); exact HO491043.out) (Kd.R_base ho0) hb)
                                              have n8_ := Aside0.mk (Kd.N_elder' (by (with_reducible repeat (first | apply Kd.N_alloc | apply Kd.N_drewN | apply Kd.N_drew)); exact HO491046.out) (Kd.R_base ho0) hb)
                                              have n9_ := Aside0.mk (Kd.R_lower (Kd.R_newM (M := fun k_ => (w.heap.size ≤ k_)) ho0 (below_size (by repeat (first | (with_reducible first | exact HB.out | apply below_alloc | apply pw_below_drewN | apply below_drew1) | exact HB.out))) (fun k_ h_ => h_)) (below_size (by repeat (first | (with_reducible first | exact HB.out | apply below_alloc | apply pw_below_drewN | apply below_drew1) | exact HB.out))))
                                              have n10_ := Aside0.mk (below_step (by repeat (first | (with_reducible first | exact HB.out | apply below_alloc | apply pw_below_drewN | apply below_drew1) | exact HB.out)) hb)
                                              clear HO_0
                                              clear HO491013
                                              clear HO491018
                                              clear HO491023
                                              clear HO491028
                                              clear HO491033
                                              clear HO491038
                                              clear HO491043
                                              clear HO491046
                                              clear HB
                                              have HO_0 := n0_
                                              have HO491013 := n1_
                                              have HO491018 := n2_
                                              have HO491023 := n3_
                                              have HO491028 := n4_
                                              have HO491033 := n5_
                                              have HO491038 := n6_
                                              have HO491043 := n7_
                                              have HO491046 := n8_
                                              have HO491049 := n9_
                                              have HB := n10_
                                              clear n0_ n1_ n2_ n3_ n4_ n5_ n6_ n7_ n8_ n9_ n10_
                                              (try clear hb)
                                              (try clear hb2)
                                              (try clear hk)
                                              (try clear hi)
                                              (try clear ho0)
                                              obtain ⟨Ao54, co54, eo54⟩ := Kd.R_slice HO491049.out
                                              (first | subst eo54 | (injection eo54 with f1_ f2_ f3_; have f4_ := f1_.symm; have f5_ := f3_.symm; clear f1_ f2_ f3_; subst f4_; subst f5_))
                                              refine hK.out _ _ trivial (fun hHeld => ?_)
                                              clear hK K
                                              refine norm_ (a' := ?_) ?_ ?_
                                              rotate_left
                                              · show Act.put _ (some 82) _ = _
                                                simp only [Act.put, List.setIfInBounds_toArray, List.set_cons_zero, List.set_cons_succ, i64_w, i32_w]
                                                rfl
                                              refine one_ (i := 34) (N := some 83) #[true, true, true, true, true, true, true, true, true, true, true, true, true, true, true, true, true, true, true, true, true, true, true, true, true, true, true, true, true, true, true, true, true, true, true, false, false] rfl rfl (one_of HT_.out (by kernel_rfl)) (by decide) (fun K hK => ?_)
                                              refine goes_ Try.func105 (by kernel_rfl) rfl #[.slice Ao54 t491047.length co54] (by rfl) rfl rfl (by (try simp only [List.map_toArray, List.map_cons, List.map_nil]); first | done | rfl | (simp only [List.length_drop, List.length_take]; rfl)) ?_
                                              with_reducible refine (impl_normal.calls _ _ t491047 t491050 _ ?side1 ?side2 A41.out).mono ?_
                                              (case side1 => repeat (first | exact (Kd.R_reads' HO491049.out).2.2 | (with_reducible refine Kd.C_alloc ?_ _) | (with_reducible refine Kd.C_drewN ?_ _) | (with_reducible refine Kd.C_drew ?_)))
                                              (case side2 => exact (Kd.R_reads' HO491049.out).2.1)
                                              rintro e w55 ⟨v491051, rfl, ho0, hb⟩
                                              refine ⟨_, rfl, ?_⟩
                                              have n0_ := Aside0.mk (Kd.V_elder' (by (with_reducible repeat (first | apply Kd.V_alloc | apply Kd.V_drewN | apply Kd.V_drew)); exact HO_0.out) (Kd.R_base ho0) hb)
                                              have n1_ := Aside0.mk (Kd.V_elder' (by (with_reducible repeat (first | apply Kd.V_alloc | apply Kd.V_drewN | apply Kd.V_drew)); exact HO491013.out) (Kd.R_base ho0) hb)
                                              have n2_ := Aside0.mk (Kd.V_elder' (by (with_reducible repeat (first | apply Kd.V_alloc | apply Kd.V_drewN | apply Kd.V_drew)); exact HO491018.out) (Kd.R_base ho0) hb)
                                              have n3_ := Aside0.mk (Kd.V_elder' (by (with_reducible repeat (first | apply Kd.V_alloc | apply Kd.V_drewN | apply Kd.V_drew)); exact HO491023.out) (Kd.R_base ho0) hb)
                                              have n4_ := Aside0.mk (Kd.V_elder' (by (with_reducible repeat (first | apply Kd.V_alloc | apply Kd.V_drewN | apply Kd.V_drew)); exact HO491028.out) (Kd.R_base ho0) hb)
                                              have n5_ := Aside0.mk (Kd.V_elder' (by (with_reducible repeat (first | apply Kd.V_alloc | apply Kd.V_drewN | apply Kd.V_drew)); exact HO491033.out) (Kd.R_base ho0) hb)
                                              have n6_ := Aside0.mk (Kd.V_elder' (by (with_reducible repeat (first | apply Kd.V_alloc | apply Kd.V_drewN | apply Kd.V_drew)); exact HO491038.out) (Kd.R_base ho0) hb)
                                              have n7_ := Aside0.mk (Kd.V_elder' (by (with_reducible repeat (first | apply Kd.V_alloc | apply Kd.V_drewN | apply Kd.V_drew)); exact HO491043.out) (Kd.R_base ho0) hb)
                                              have n8_ := Aside0.mk (Kd.N_elder' (by (with_reducible repeat (first | apply Kd.N_alloc | apply Kd.N_drewN | apply Kd.N_drew)); exact HO491046.out) (Kd.R_base ho0) hb)
                                              have n9_ := Aside0.mk (Kd.R_elder' (by (with_reducible repeat (first | apply Kd.R_alloc | apply Kd.R_drewN | apply Kd.R_drew)); exact HO491049.out) (Kd.R_base ho0) hb)
                                              have n10_ := Aside0.mk (Kd.R_lower (Kd.R_new' (Kd.R_newM (M := fun k_ => (w.heap.size ≤ k_)) ho0 (below_size (by repeat (first | (with_reducible first | exact HB.out | apply below_alloc | apply pw_below_drewN | apply below_drew1) | exact HB.out))) (fun k_ h_ => h_)) (Kd.R_lt (by (with_reducible repeat (first | apply Kd.R_alloc | apply Kd.R_drewN | apply Kd.R_drew)); exact HO491049.out))) (below_size (by repeat (first | (with_reducible first | exact HB.out | apply below_alloc | apply pw_below_drewN | apply below_drew1) | exact HB.out))))
                                              have n11_ := Aside0.mk (below_step (by repeat (first | (with_reducible first | exact HB.out | apply below_alloc | apply pw_below_drewN | apply below_drew1) | exact HB.out)) hb)
                                              clear HO_0
                                              clear HO491013
                                              clear HO491018
                                              clear HO491023
                                              clear HO491028
                                              clear HO491033
                                              clear HO491038
                                              clear HO491043
                                              clear HO491046
                                              clear HO491049
                                              clear HB
                                              have HO_0 := n0_
                                              have HO491013 := n1_
                                              have HO491018 := n2_
                                              have HO491023 := n3_
                                              have HO491028 := n4_
                                              have HO491033 := n5_
                                              have HO491038 := n6_
                                              have HO491043 := n7_
                                              have HO491046 := n8_
                                              have HO491049 := n9_
                                              have HO491052 := n10_
                                              have HB := n11_
                                              clear n0_ n1_ n2_ n3_ n4_ n5_ n6_ n7_ n8_ n9_ n10_ n11_
                                              (try clear hb)
                                              (try clear hb2)
                                              (try clear hk)
                                              (try clear hi)
                                              (try clear ho0)
                                              refine hK.out _ _ trivial (fun hHeld => ?_)
                                              clear hK K
                                              refine norm_ (a' := ?_) ?_ ?_
                                              rotate_left
                                              · show Act.put _ (some 83) _ = _
                                                simp only [Act.put, List.setIfInBounds_toArray, List.set_cons_zero, List.set_cons_succ, i64_w, i32_w]
                                                rfl
                                              refine pure_ (i := 35) (N := some 6) (v := ?_) (a' := ?_) #[true, true, true, true, true, true, true, true, true, true, true, true, true, true, true, true, true, true, true, true, true, true, true, true, true, true, true, true, true, true, true, true, true, true, true, true, false] rfl rfl (any_of HT_.out (by kernel_rfl)) (fun _ _ _ h => h) (Or.inl ⟨by rfl, ?_⟩) ?_ ?_
                                              rotate_left
                                              · intro w'
                                                go_simp
                                                with_reducible rfl
                                              rotate_left
                                              · simp only [Act.put, List.setIfInBounds_toArray, List.set_cons_zero, List.set_cons_succ, i64_w, i32_w]
                                                rfl
                                              refine pure_ (i := 36) (N := some 7) (v := ?_) (a' := ?_) #[true, true, true, true, true, true, true, true, true, true, true, true, true, true, true, true, true, true, true, true, true, true, true, true, true, true, true, true, true, true, true, true, true, true, true, true, true] rfl rfl (any_of HT_.out (by kernel_rfl)) (fun _ _ _ h => h) (Or.inl ⟨by rfl, ?_⟩) ?_ ?_
                                              rotate_left
                                              · intro w'
                                                go_simp
                                                with_reducible rfl
                                              rotate_left
                                              · simp only [Act.put, List.setIfInBounds_toArray, List.set_cons_zero, List.set_cons_succ, i64_w, i32_w]
                                                rfl
                                              refine done_ (done_of HT_.out (by kernel_rfl)) ?_
                                              try go_wp2
                                              go_ret2
                                              exact ⟨_, by first | rfl | (simp [errW_none, errW_some] <;> rfl) | (simp only [← hji14, ← hji16, ← hji18, ← hji21, ← hji28]; first | rfl | (simp [errW_none, errW_some] <;> rfl)) | (simp [*, errW_none, errW_some] <;> rfl), by (with_reducible repeat (first | apply Kd.R_alloc | apply Kd.R_drewN | apply Kd.R_drew)); exact Kd.R_mono HO491052.out (fun _ hk => hk.1.1), by repeat (first | (with_reducible first | exact HB.out | apply below_alloc | apply pw_below_drewN | apply below_drew1) | exact HB.out)⟩
                                            · rw [if_neg c38] at H
                                              exact absurd H (by simp)
                                          · rw [if_neg c37] at H
                                            exact absurd H (by simp)
                                        · rw [if_neg c36] at H
                                          exact absurd H (by simp)
                                      · rw [if_neg c34] at H
                                        exact absurd H (by simp)
                                    · rw [if_neg c33] at H
                                      exact absurd H (by simp)
                                  · rw [if_neg c32] at H
                                    exact absurd H (by simp)
                                · rw [if_neg c31] at H
                                  exact absurd H (by simp)
                              · rw [if_neg c30] at H
                                exact absurd H (by simp)
                            · rw [if_neg c29] at H
                              exact absurd H (by simp)
                          · rw [if_neg c27] at H
                            exact absurd H (by simp)
                        · rw [if_neg c26] at H
                          exact absurd H (by simp)
                      · rw [if_neg c25] at H
                        exact absurd H (by simp)
                    · rw [if_neg c24] at H
                      exact absurd H (by simp)
                  · rw [if_neg c23] at H
                    exact absurd H (by simp)
                · rw [if_neg c22] at H
                  exact absurd H (by simp)
              · rw [if_neg c20] at H
                exact absurd H (by simp)
            · rw [if_neg c19] at H
              exact absurd H (by simp)
          · replace c13 := Bool.eq_false_iff.mpr c13
            subst c13
            have H1 : (some (([] : List Int), 5)) = some (r1, r2) := by rw [if_neg (show ¬ (false = true) by decide)] at H; exact H
            clear H
            have H := H1
            clear H1
            simp only [Option.some.injEq, Prod.mk.injEq] at H
            obtain ⟨rfl, rfl⟩ := H
            go_wp2_with (first | ((with_reducible refine gate_callee (f := 113) rfl ?_); refine goesL_ (some 31) rfl rfl Try.func113 (by kernel_rfl) rfl #[.slice A0 l0.length c0, .int .i64 a1, .int .i64 a2] rfl (by (try simp only [List.map_toArray, List.map_cons, List.map_nil]); first | done | rfl | (simp only [List.length_drop, List.length_take]; rfl)) ?_; (with_reducible refine (impl_cross.calls kj5 _ _ l0 a1 a2 false _ ?side1 ?side2 A12.out).mono ?_); (case side1 => repeat (first | exact (Kd.V_reads' HO_0.out).2.2 | (with_reducible refine Kd.C_alloc ?_ _) | (with_reducible refine Kd.C_drewN ?_ _) | (with_reducible refine Kd.C_drew ?_))); (case side2 => exact (Kd.V_reads' HO_0.out).2.1); rintro e w' ⟨rfl, ⟨nd, rfl⟩⟩; refine ⟨_, rfl, ?_⟩))
            go_ret2
            exact ⟨_, by first | rfl | (simp [errW_none, errW_some] <;> rfl) | (simp [*, errW_none, errW_some] <;> rfl), by first | exact Kd.R_nil _ _ _ _ _ | exact Kd.N_nil _ _ _ _ _ | exact Kd.V_nil _ _ _ _ _ | exact Kd.Q_nil _ _ _ _ _ | exact Kd.S_nil _ _ _ _ _, by repeat (first | (with_reducible first | exact HB.out | apply below_alloc | apply pw_below_drewN | apply below_drew1) | exact HB.out)⟩
  · replace c5 := Bool.eq_false_iff.mpr c5
    subst c5
    have H1 : (some (([] : List Int), 1)) = some (r1, r2) := by rw [if_neg (show ¬ (false = true) by decide)] at H; exact H
    clear H
    have H := H1
    clear H1
    simp only [Option.some.injEq, Prod.mk.injEq] at H
    obtain ⟨rfl, rfl⟩ := H
    go_enter Try.func49, Try.ntmps49
    go_wp2_with (first | ((with_reducible refine gate_callee (f := 84) rfl ?_); refine goesL_ (some 14) rfl rfl Try.func84 (by kernel_rfl) rfl #[.slice A0 l0.length c0] rfl (by (try simp only [List.map_toArray, List.map_cons, List.map_nil]); first | done | rfl | (simp only [List.length_drop, List.length_take]; rfl)) ?_; (with_reducible refine (impl_IsWord.calls k _ _ l0 false _ ?side1 ?side2 A4.out).mono ?_); (case side1 => repeat (first | exact (Kd.V_reads' HO0.out).2.2 | (with_reducible refine Kd.C_alloc ?_ _) | (with_reducible refine Kd.C_drewN ?_ _) | (with_reducible refine Kd.C_drew ?_))); (case side2 => exact (Kd.V_reads' HO0.out).2.1); rintro e w56 ⟨rfl, hb⟩; refine ⟨_, rfl, ?_⟩; have n0_ := Aside0.mk (Kd.V_below (by (with_reducible repeat (first | apply Kd.V_alloc | apply Kd.V_drewN | apply Kd.V_drew)); exact HO0.out) hb); have n1_ := Aside0.mk (below_step (by repeat (first | (with_reducible first | exact HB.out | apply below_alloc | apply pw_below_drewN | apply below_drew1) | exact HB.out)) hb); clear HO0; clear HB; have HO0 := n0_; have HB := n1_; clear n0_ n1_; (try clear hb); (try clear hb2); (try clear hk); (try clear hi)))
    go_ret2
    exact ⟨_, by first | rfl | (simp [errW_none, errW_some] <;> rfl) | (simp [*, errW_none, errW_some] <;> rfl), by first | exact Kd.R_nil _ _ _ _ _ | exact Kd.N_nil _ _ _ _ _ | exact Kd.V_nil _ _ _ _ _ | exact Kd.Q_nil _ _ _ _ _ | exact Kd.S_nil _ _ _ _ _, by repeat (first | (with_reducible first | exact HB.out | apply below_alloc | apply pw_below_drewN | apply below_drew1) | exact HB.out)⟩

end Go.Proofs.Ytfijnlbkflmkbaa.F
