/- What impl_LocalComplement answers, and that the Go text comes to it: for every world in which the arguments read as told. -/
import Derived.Test.YtfijnlbkflmkbaaFgA
import Derived.Test.YtfijnlbkflmkbaaFx74
namespace Go.Proofs.Ytfijnlbkflmkbaa.F
open Go.RowKit Go.Proofs.YtfijnlbkflmkbaaW.PrintWords Go.Proofs.YtfijnlbkflmkbaaW.PrintLast Go.Proofs.YtfijnlbkflmkbaaW.PrintMore
attribute [local go_sem] max2_int min2_int max_two min_two max_three min_three max_four min_four   -- for this text's walks alone
set_option linter.unusedVariables false
set_option linter.unusedSimpArgs false

/-! ### impl_LocalComplement: function 43 -/
def impl_LocalComplement.f (k : Nat) (l0 : List Int) (a1 : Int) : Option (List Int × Int) := (impl_IsWord.f k l0).bind fun t431001 => (if t431001 = true then ((impl_isChord.f l0 a1).bind fun t431002 => (if t431002 = true then ((impl_places.f k l0 a1).bind fun bt431003 => (if 0 ≤ (wrap64 (bt431003.1 + 1)) then (if (wrap64 (bt431003.1 + 1)) ≤ (l0.length : Int) then (if (wrap64 (bt431003.1 + 1)) ≤ bt431003.2 then (if bt431003.2 ≤ (l0.length : Int) then ((impl_reversed.f k ((l0.take (bt431003.2 : Int).toNat).drop ((wrap64 (bt431003.1 + 1)) : Int).toNat)).bind fun t431015 => (if 0 ≤ bt431003.2 then ((slices_Concat_int64_int64.f (([(l0.take ((wrap64 (bt431003.1 + 1)) : Int).toNat), t431015, (l0.drop (bt431003.2 : Int).toNat)] : List (List Int)))).bind fun t431026 => ((impl_normal.f t431026).bind fun t431029 => (some (t431029, 0)))) else (none))) else (none)) else (none)) else (none)) else (none))) else (some (([] : List Int), 2)))) else (some (([] : List Int), 1)))
theorem impl_LocalComplement.mono : ∀ a0 a1 k, LeO (impl_LocalComplement.f k a0 a1) (impl_LocalComplement.f (k + 1) a0 a1) := by
  intro a0 a1 k
  unfold impl_LocalComplement.f
  repeat' first
      | (with_reducible exact impl_IsWord.mono _ _)
      | (with_reducible exact impl_places.mono _ _ _)
      | (with_reducible exact impl_reversed.mono _ _)
      | (with_reducible exact LeO.refl _)
      | (with_reducible exact LeO.none _)
      | (with_reducible refine LeO.ite ?_ ?_)
      | (with_reducible refine LeO.bind ?_ (fun _ => ?_))
      | exact impl_IsWord.mono _ _
      | exact impl_places.mono _ _ _
      | exact impl_reversed.mono _ _
      | exact LeO.none _
      | refine LeO.ite ?_ ?_
      | refine LeO.bind ?_ (fun _ => ?_)
def impl_LocalComplement.T6 : Bool × List (List Nat × List Nat) := (true, [([], []), ([], []), ([1], [1]), ([0, 2], [0, 2]), ([], []), ([], []), ([5], [5]), ([], []), ([4, 6, 7], [4, 6, 7]), ([8], [8]), ([], []), ([], []), ([10, 11], [10, 11]), ([3, 9, 12], [3, 9, 12]), ([13, 9], [13]), ([14, 14], [14]), ([15, 15, 0, 1, 2, 3, 4, 5, 6, 7, 8, 9, 10, 11, 12, 13, 14, 15], [15]), ([16, 0, 1, 2, 3, 4, 5, 6, 7, 8, 9, 10, 11, 12, 13, 14, 15, 16], [])])
def impl_LocalComplement.B6 : List Nat := [0, 0, 2, 7, 0, 0, 32, 0, 240, 496, 0, 0, 3072, 8191, 16383, 32767, 65535, 131071]
theorem impl_LocalComplement.tab6 : rtab .any (opsOf Try.f43 6) = impl_LocalComplement.T6 := by kernel_rfl
theorem impl_LocalComplement.bits6 : waitsOk impl_LocalComplement.T6.2 impl_LocalComplement.B6 = true := by kernel_rfl
set_option maxHeartbeats 8000000 in
set_option maxRecDepth 100000 in
theorem impl_LocalComplement.calls (k : Nat) (P0_ : Nat → Prop) (A0 : Option Addr) (c0 : Nat) (l0 : List Int) (a1 : Int) (r1 : List Int) (r2 : Int) (w : World) (hs0 : Kd.V (Kd.int .i64) 2 w w.heap.size (fun k_ => P0_ k_) (.slice A0 l0.length c0) l0) (h : impl_LocalComplement.f k l0 a1 = some (r1, r2)) :
    Calls Try.prog 43 #[.slice A0 l0.length c0, .int .i64 a1] w fun e w' => ∃ v0_ : Value, e = .returned (.tuple #[v0_, .int .i64 r2]) ∧ Kd.R (Kd.int .i64) 2 w' w.heap.size (fun k_ => (w.heap.size ≤ k_)) v0_ r1 ∧ Below w.heap.size w w' := by
  have HO0 := Aside0.mk (show Kd.V (Kd.int .i64) 2 w w.heap.size (fun k_ => (P0_ k_ ∨ w.heap.size ≤ k_)) (.slice A0 l0.length c0) l0 from Kd.V_mono hs0 (fun k_ hk => .inl hk))
  have HB := Aside0.mk (Below.refl w.heap.size w)
  have H : ((impl_IsWord.f k l0).bind fun t431001 => (if t431001 = true then ((impl_isChord.f l0 a1).bind fun t431002 => (if t431002 = true then ((impl_places.f k l0 a1).bind fun bt431003 => (if 0 ≤ (wrap64 (bt431003.1 + 1)) then (if (wrap64 (bt431003.1 + 1)) ≤ (l0.length : Int) then (if (wrap64 (bt431003.1 + 1)) ≤ bt431003.2 then (if bt431003.2 ≤ (l0.length : Int) then ((impl_reversed.f k ((l0.take (bt431003.2 : Int).toNat).drop ((wrap64 (bt431003.1 + 1)) : Int).toNat)).bind fun t431015 => (if 0 ≤ bt431003.2 then ((slices_Concat_int64_int64.f (([(l0.take ((wrap64 (bt431003.1 + 1)) : Int).toNat), t431015, (l0.drop (bt431003.2 : Int).toNat)] : List (List Int)))).bind fun t431026 => ((impl_normal.f t431026).bind fun t431029 => (some (t431029, 0)))) else (none))) else (none)) else (none)) else (none)) else (none))) else (some (([] : List Int), 2)))) else (some (([] : List Int), 1)))) = some (r1, r2) := h
  clear h
  replace H := Option.bind_eq_some_iff.mp H
  obtain ⟨t431001, A30, H⟩ := H
  replace H : (if t431001 = true then ((impl_isChord.f l0 a1).bind fun t431002 => (if t431002 = true then ((impl_places.f k l0 a1).bind fun bt431003 => (if 0 ≤ (wrap64 (bt431003.1 + 1)) then (if (wrap64 (bt431003.1 + 1)) ≤ (l0.length : Int) then (if (wrap64 (bt431003.1 + 1)) ≤ bt431003.2 then (if bt431003.2 ≤ (l0.length : Int) then ((impl_reversed.f k ((l0.take (bt431003.2 : Int).toNat).drop ((wrap64 (bt431003.1 + 1)) : Int).toNat)).bind fun t431015 => (if 0 ≤ bt431003.2 then ((slices_Concat_int64_int64.f (([(l0.take ((wrap64 (bt431003.1 + 1)) : Int).toNat), t431015, (l0.drop (bt431003.2 : Int).toNat)] : List (List Int)))).bind fun t431026 => ((impl_normal.f t431026).bind fun t431029 => (some (t431029, 0)))) else (none))) else (none)) else (none)) else (none)) else (none))) else (some (([] : List Int), 2)))) else (some (([] : List Int), 1))) = some (r1, r2) := H
  have A3 := Aside0.mk A30
  clear A30
  by_cases c4 : t431001 = true
  · subst c4
    have H1 : ((impl_isChord.f l0 a1).bind fun t431002 => (if t431002 = true then ((impl_places.f k l0 a1).bind fun bt431003 => (if 0 ≤ (wrap64 (bt431003.1 + 1)) then (if (wrap64 (bt431003.1 + 1)) ≤ (l0.length : Int) then (if (wrap64 (bt431003.1 + 1)) ≤ bt431003.2 then (if bt431003.2 ≤ (l0.length : Int) then ((impl_reversed.f k ((l0.take (bt431003.2 : Int).toNat).drop ((wrap64 (bt431003.1 + 1)) : Int).toNat)).bind fun t431015 => (if 0 ≤ bt431003.2 then ((slices_Concat_int64_int64.f (([(l0.take ((wrap64 (bt431003.1 + 1)) : Int).toNat), t431015, (l0.drop (bt431003.2 : Int).toNat)] : List (List Int)))).bind fun t431026 => ((impl_normal.f t431026).bind fun t431029 => (some (t431029, 0)))) else (none))) else (none)) else (none)) else (none)) else (none))) else (some (([] : List Int), 2)))) = some (r1, r2) := by rw [if_pos rfl] at H; exact H
    clear H
    have H := H1
    clear H1
    replace H := Option.bind_eq_some_iff.mp H
    obtain ⟨t431002, A50, H⟩ := H
    replace H : (if t431002 = true then ((impl_places.f k l0 a1).bind fun bt431003 => (if 0 ≤ (wrap64 (bt431003.1 + 1)) then (if (wrap64 (bt431003.1 + 1)) ≤ (l0.length : Int) then (if (wrap64 (bt431003.1 + 1)) ≤ bt431003.2 then (if bt431003.2 ≤ (l0.length : Int) then ((impl_reversed.f k ((l0.take (bt431003.2 : Int).toNat).drop ((wrap64 (bt431003.1 + 1)) : Int).toNat)).bind fun t431015 => (if 0 ≤ bt431003.2 then ((slices_Concat_int64_int64.f (([(l0.take ((wrap64 (bt431003.1 + 1)) : Int).toNat), t431015, (l0.drop (bt431003.2 : Int).toNat)] : List (List Int)))).bind fun t431026 => ((impl_normal.f t431026).bind fun t431029 => (some (t431029, 0)))) else (none))) else (none)) else (none)) else (none)) else (none))) else (some (([] : List Int), 2))) = some (r1, r2) := H
    have A5 := Aside0.mk A50
    clear A50
    by_cases c6 : t431002 = true
    · subst c6
      have H1 : ((impl_places.f k l0 a1).bind fun bt431003 => (if 0 ≤ (wrap64 (bt431003.1 + 1)) then (if (wrap64 (bt431003.1 + 1)) ≤ (l0.length : Int) then (if (wrap64 (bt431003.1 + 1)) ≤ bt431003.2 then (if bt431003.2 ≤ (l0.length : Int) then ((impl_reversed.f k ((l0.take (bt431003.2 : Int).toNat).drop ((wrap64 (bt431003.1 + 1)) : Int).toNat)).bind fun t431015 => (if 0 ≤ bt431003.2 then ((slices_Concat_int64_int64.f (([(l0.take ((wrap64 (bt431003.1 + 1)) : Int).toNat), t431015, (l0.drop (bt431003.2 : Int).toNat)] : List (List Int)))).bind fun t431026 => ((impl_normal.f t431026).bind fun t431029 => (some (t431029, 0)))) else (none))) else (none)) else (none)) else (none)) else (none))) = some (r1, r2) := by rw [if_pos rfl] at H; exact H
      clear H
      have H := H1
      clear H1
      replace H := Option.bind_eq_some_iff.mp H
      obtain ⟨⟨t431003, t431004⟩, A70, H⟩ := H
      replace H : (if 0 ≤ (wrap64 (t431003 + 1)) then (if (wrap64 (t431003 + 1)) ≤ (l0.length : Int) then (if (wrap64 (t431003 + 1)) ≤ t431004 then (if t431004 ≤ (l0.length : Int) then ((impl_reversed.f k ((l0.take (t431004 : Int).toNat).drop ((wrap64 (t431003 + 1)) : Int).toNat)).bind fun t431015 => (if 0 ≤ t431004 then ((slices_Concat_int64_int64.f (([(l0.take ((wrap64 (t431003 + 1)) : Int).toNat), t431015, (l0.drop (t431004 : Int).toNat)] : List (List Int)))).bind fun t431026 => ((impl_normal.f t431026).bind fun t431029 => (some (t431029, 0)))) else (none))) else (none)) else (none)) else (none)) else (none)) = some (r1, r2) := H
      have A7 := Aside0.mk A70
      clear A70
      obtain ⟨ji8, hji8⟩ : ∃ j_ : Int, (wrap64 (t431003 + 1)) = j_ := ⟨_, rfl⟩
      replace H : (if 0 ≤ (ji8) then (if (ji8) ≤ (l0.length : Int) then (if (ji8) ≤ t431004 then (if t431004 ≤ (l0.length : Int) then ((impl_reversed.f k ((l0.take (t431004 : Int).toNat).drop ((ji8) : Int).toNat)).bind fun t431015 => (if 0 ≤ t431004 then ((slices_Concat_int64_int64.f (([(l0.take ((ji8) : Int).toNat), t431015, (l0.drop (t431004 : Int).toNat)] : List (List Int)))).bind fun t431026 => ((impl_normal.f t431026).bind fun t431029 => (some (t431029, 0)))) else (none))) else (none)) else (none)) else (none)) else (none)) = some (r1, r2) := by first | (rw [hji8] at H; exact H) | (simp only [hji8] at H ⊢; exact H)
      (try rw [hji8] at A3)
      (try rw [hji8] at A5)
      (try rw [hji8] at A7)
      have hji8w : (IntKind.i64.wrap (t431003 + 1)) = ji8 := (i64_w _).trans hji8
      by_cases c9 : 0 ≤ (ji8)
      · rw [if_pos c9] at H
        have c9b0 := eq_true c9
        have c9b1 : decide (0 ≤ (ji8)) = true := decide_eq_true c9
        clear c9
        by_cases c10 : (ji8) ≤ (l0.length : Int)
        · rw [if_pos c10] at H
          have c10b0 := eq_true c10
          have c10b1 : decide ((ji8) ≤ (l0.length : Int)) = true := decide_eq_true c10
          clear c10
          obtain ⟨y431005, hy431005⟩ : ∃ y_ : List Int, y_ = (l0.take ((ji8) : Int).toNat) := ⟨_, rfl⟩
          replace H : (if (ji8) ≤ t431004 then (if t431004 ≤ (l0.length : Int) then ((impl_reversed.f k ((l0.take (t431004 : Int).toNat).drop ((ji8) : Int).toNat)).bind fun t431015 => (if 0 ≤ t431004 then ((slices_Concat_int64_int64.f (([y431005, t431015, (l0.drop (t431004 : Int).toNat)] : List (List Int)))).bind fun t431026 => ((impl_normal.f t431026).bind fun t431029 => (some (t431029, 0)))) else (none))) else (none)) else (none)) = some (r1, r2) := by first | (rw [hy431005]; with_reducible exact H) | (have H2_ := (Option.bind_some _ _).symm.trans H; rw [hy431005]; with_reducible exact H2_) | (have H2_ := (Option.bind_some _ _).symm.trans H; with_reducible exact H2_) | with_reducible exact H | (rw [hy431005]; exact H) | exact H
          have Ny431005 := Aside0.mk hy431005
          clear hy431005
          have c11b0 := eq_true (of_decide_eq_true (by first | (with_reducible assumption) | assumption) : 0 ≤ (ji8))
          by_cases c12 : (ji8) ≤ t431004
          · rw [if_pos c12] at H
            have c12b0 := eq_true c12
            have c12b1 : decide ((ji8) ≤ t431004) = true := decide_eq_true c12
            clear c12
            by_cases c13 : t431004 ≤ (l0.length : Int)
            · rw [if_pos c13] at H
              have c13b0 := eq_true c13
              have c13b1 : decide (t431004 ≤ (l0.length : Int)) = true := decide_eq_true c13
              clear c13
              obtain ⟨y431010, hy431010⟩ : ∃ y_ : List Int, y_ = ((l0.take (t431004 : Int).toNat).drop ((ji8) : Int).toNat) := ⟨_, rfl⟩
              replace H : ((impl_reversed.f k y431010).bind fun t431015 => (if 0 ≤ t431004 then ((slices_Concat_int64_int64.f (([y431005, t431015, (l0.drop (t431004 : Int).toNat)] : List (List Int)))).bind fun t431026 => ((impl_normal.f t431026).bind fun t431029 => (some (t431029, 0)))) else (none))) = some (r1, r2) := by first | (rw [hy431010]; with_reducible exact H) | (have H2_ := (Option.bind_some _ _).symm.trans H; rw [hy431010]; with_reducible exact H2_) | (have H2_ := (Option.bind_some _ _).symm.trans H; with_reducible exact H2_) | with_reducible exact H | (rw [hy431010]; exact H) | exact H
              have Ny431010 := Aside0.mk hy431010
              clear hy431010
              replace H := Option.bind_eq_some_iff.mp H
              obtain ⟨t431015, A140, H⟩ := H
              replace H : (if 0 ≤ t431004 then ((slices_Concat_int64_int64.f (([y431005, t431015, (l0.drop (t431004 : Int).toNat)] : List (List Int)))).bind fun t431026 => ((impl_normal.f t431026).bind fun t431029 => (some (t431029, 0)))) else (none)) = some (r1, r2) := H
              have A14 := Aside0.mk A140
              clear A140
              by_cases c15 : 0 ≤ t431004
              · rw [if_pos c15] at H
                have c15b0 := eq_true c15
                have c15b1 : decide (0 ≤ t431004) = true := decide_eq_true c15
                clear c15
                have c16b0 := eq_true (of_decide_eq_true (by first | (with_reducible assumption) | assumption) : t431004 ≤ (l0.length : Int))
                obtain ⟨y431018, hy431018⟩ : ∃ y_ : List Int, y_ = (l0.drop (t431004 : Int).toNat) := ⟨_, rfl⟩
                replace H : ((slices_Concat_int64_int64.f (([y431005, t431015, y431018] : List (List Int)))).bind fun t431026 => ((impl_normal.f t431026).bind fun t431029 => (some (t431029, 0)))) = some (r1, r2) := by first | (rw [hy431018]; with_reducible exact H) | (have H2_ := (Option.bind_some _ _).symm.trans H; rw [hy431018]; with_reducible exact H2_) | (have H2_ := (Option.bind_some _ _).symm.trans H; with_reducible exact H2_) | with_reducible exact H | (rw [hy431018]; exact H) | exact H
                have Ny431018 := Aside0.mk hy431018
                clear hy431018
                obtain ⟨y431023, hy431023⟩ : ∃ y_ : List (List Int), y_ = (([y431005, t431015, y431018] : List (List Int))) := ⟨_, rfl⟩
                replace H : ((slices_Concat_int64_int64.f y431023).bind fun t431026 => ((impl_normal.f t431026).bind fun t431029 => (some (t431029, 0)))) = some (r1, r2) := by first | (rw [hy431023]; with_reducible exact H) | (have H2_ := (Option.bind_some _ _).symm.trans H; rw [hy431023]; with_reducible exact H2_) | (have H2_ := (Option.bind_some _ _).symm.trans H; with_reducible exact H2_) | with_reducible exact H | (rw [hy431023]; exact H) | exact H
                have Ny431023 := Aside0.mk hy431023
                clear hy431023
                replace H := Option.bind_eq_some_iff.mp H
                obtain ⟨t431026, A170, H⟩ := H
                replace H : ((impl_normal.f t431026).bind fun t431029 => (some (t431029, 0))) = some (r1, r2) := H
                have A17 := Aside0.mk A170
                clear A170
                replace H := Option.bind_eq_some_iff.mp H
                obtain ⟨t431029, A180, H⟩ := H
                replace H : (some (t431029, 0)) = some (r1, r2) := H
                have A18 := Aside0.mk A180
                clear A180
                simp only [Option.some.injEq, Prod.mk.injEq] at H
                obtain ⟨rfl, rfl⟩ := H
                go_enter Try.func43, Try.ntmps43
                try go_wp2_with (first | ((with_reducible refine gate_callee (f := 84) rfl ?_); refine goesL_ (some 10) rfl rfl Try.func84 (by kernel_rfl) rfl #[.slice A0 l0.length c0] rfl (by (try simp only [List.map_toArray, List.map_cons, List.map_nil]); first | done | rfl | (simp only [List.length_drop, List.length_take]; rfl)) ?_; (with_reducible refine (impl_IsWord.calls k _ _ l0 true _ ?side1 ?side2 A3.out).mono ?_); (case side1 => repeat (first | exact (Kd.V_reads' HO0.out).2.2 | (with_reducible refine Kd.C_alloc ?_ _) | (with_reducible refine Kd.C_drewN ?_ _) | (with_reducible refine Kd.C_drew ?_))); (case side2 => exact (Kd.V_reads' HO0.out).2.1); rintro e w19 ⟨rfl, hb⟩; refine ⟨_, rfl, ?_⟩; have n0_ := Aside0.mk (Kd.V_below (by (with_reducible repeat (first | apply Kd.V_alloc | apply Kd.V_drewN | apply Kd.V_drew)); exact HO0.out) hb); have n1_ := Aside0.mk (below_step (by repeat (first | (with_reducible first | exact HB.out | apply below_alloc | apply pw_below_drewN | apply below_drew1) | exact HB.out)) hb); clear HO0; clear HB; have HO0 := n0_; have HB := n1_; clear n0_ n1_; (try clear hb); (try clear hb2); (try clear hk); (try clear hi)) | ((with_reducible refine gate_callee (f := 103) rfl ?_); refine goesL_ (some 15) rfl rfl Try.func103 (by kernel_rfl) rfl #[.slice A0 l0.length c0, .int .i64 a1] rfl (by (try simp only [List.map_toArray, List.map_cons, List.map_nil]); first | done | rfl | (simp only [List.length_drop, List.length_take]; rfl)) ?_; (with_reducible refine (impl_isChord.calls _ _ l0 a1 true _ ?side1 ?side2 A5.out).mono ?_); (case side1 => repeat (first | exact (Kd.V_reads' HO0.out).2.2 | (with_reducible refine Kd.C_alloc ?_ _) | (with_reducible refine Kd.C_drewN ?_ _) | (with_reducible refine Kd.C_drew ?_))); (case side2 => exact (Kd.V_reads' HO0.out).2.1); rintro e w' ⟨rfl, ⟨nd, rfl⟩⟩; refine ⟨_, rfl, ?_⟩) | ((with_reducible refine gate_callee (f := 104) rfl ?_); refine goesL_ (some 20) rfl rfl Try.func104 (by kernel_rfl) rfl #[.slice A0 l0.length c0, .int .i64 a1] rfl (by (try simp only [List.map_toArray, List.map_cons, List.map_nil]); first | done | rfl | (simp only [List.length_drop, List.length_take]; rfl)) ?_; (with_reducible refine (impl_places.calls k _ _ l0 a1 t431003 t431004 _ ?side1 ?side2 A7.out).mono ?_); (case side1 => repeat (first | exact (Kd.V_reads' HO0.out).2.2 | (with_reducible refine Kd.C_alloc ?_ _) | (with_reducible refine Kd.C_drewN ?_ _) | (with_reducible refine Kd.C_drew ?_))); (case side2 => exact (Kd.V_reads' HO0.out).2.1); rintro e w' ⟨rfl, ⟨nd, rfl⟩⟩; refine ⟨_, rfl, ?_⟩))
                (try (rw [drewN_self w19]; generalize hq_ : World.drewN w19 _ = w19; have n0_ : Aside0 (Kd.V (Kd.int .i64) 2 w19 w.heap.size (fun k_ => (P0_ k_ ∨ w.heap.size ≤ k_)) (.slice A0 l0.length c0) l0) := ⟨by rw [← hq_]; exact (by (with_reducible repeat (first | apply Kd.V_alloc | apply Kd.V_drewN | apply Kd.V_drew)); exact HO0.out)⟩; have n1_ : Aside0 (Below w.heap.size w w19) := ⟨by rw [← hq_]; exact (by repeat (first | (with_reducible first | exact HB.out | apply below_alloc | apply pw_below_drewN | apply below_drew1) | exact HB.out))⟩; clear HO0 HB hq_; have HO0 := n0_; have HB := n1_; clear n0_ n1_))
                have n0_ := Aside0.mk (Kd.V_drew HO0.out)
                have n1_ := Aside0.mk (below_drew1 HB.out)
                clear HO0
                clear HB
                have HO0 := n0_
                have HB := n1_
                clear n0_ n1_
                have q21 : ((ji8) : Int) ≤ ((l0.length : Int) : Int) := of_decide_eq_true (by first | (with_reducible assumption) | assumption)
                obtain ⟨i021, hi021, _, hsz21, _⟩ := info_parts info2
                have hroom21 : l0.length ≤ c0 := (Kd.V_reads' HO0.out).2.1
                have hC21 : Kd.F (Kd.int .i64) _ _ A0 l0.length l0 := (Kd.V_at (base := w.heap.size) HO0.out).2.2
                have hcut21 := cut_to (P := Try.prog) 22 2 .i64 Try.underlying22 hi021 A0 l0.length c0 (ji8) (of_decide_eq_true (by first | (with_reducible assumption) | assumption)) q21 hroom21
                have hr21 := Kd.F_take (m := ((ji8) : Int).toNat) hC21 (by omega)
                have hy21 : y431005.length = ((ji8) : Int).toNat := (by rw [Ny431005.out, List.length_take]; omega)
                rw [← Ny431005.out] at hr21
                rw [← hy21] at hcut21
                have HO431009 := Aside0.mk (show Kd.V (Kd.int .i64) 2 _ w.heap.size _ (.slice A0 y431005.length c0) y431005 from Kd.V_mk (by omega) hr21)
                have HC431009 := Aside0.mk (show y431005.length ≤ c0 from by omega)
                clear hr21 hC21 hroom21 hi021 hsz21
                have KY21 := Aside0.mk hy21
                clear hy21
                replace q21 := eq_true q21
                have q22 : (t431004 : Int) ≤ ((l0.length : Int) : Int) := of_decide_eq_true (by first | (with_reducible assumption) | assumption)
                obtain ⟨i022, hi022, _, hsz22, _⟩ := info_parts info2
                have hroom22 : l0.length ≤ c0 := (Kd.V_reads' HO0.out).2.1
                have hC22 : Kd.F (Kd.int .i64) _ _ A0 l0.length l0 := (Kd.V_at (base := w.heap.size) HO0.out).2.2
                have ql22 : ((ji8) : Int) ≤ (t431004 : Int) := of_decide_eq_true (by first | (with_reducible assumption) | assumption)
                have q022 : (0 : Int) ≤ ((ji8) : Int) := of_decide_eq_true (by first | (with_reducible assumption) | assumption)
                have hcut22 := cut_mid (P := Try.prog) 22 2 .i64 .i64 Try.underlying22 hi022 1 hsz22 A0 l0.length c0 (ji8) t431004 q022 ql22 q22 hroom22
                have hr22 := Kd.F_mid (lo := ((ji8) : Int).toNat) (hi := (t431004 : Int).toNat) (c := c0) hC22 (by omega) (by omega) hroom22
                obtain ⟨A22, hA22⟩ : ∃ A1, A1 = (if c0 = ((ji8) : Int).toNat then A0 else (A0 : Option Addr).map (·.add (((ji8) : Int).toNat * 1))) := ⟨_, rfl⟩
                obtain ⟨c22, hc22⟩ : ∃ c1, c1 = c0 - ((ji8) : Int).toNat := ⟨_, rfl⟩
                have hy22 : y431010.length = (t431004 : Int).toNat - ((ji8) : Int).toNat := (by rw [Ny431010.out, List.length_drop, List.length_take] <;> omega)
                rw [show ((l0).take (t431004 : Int).toNat).drop ((ji8) : Int).toNat = y431010 from Ny431010.out.symm] at hr22
                replace hr22 : Kd.F (Kd.int .i64) _ _ A22 y431010.length y431010 := (by rw [hA22]; exact hr22)
                rw [← hy22, ← hA22, ← hc22] at hcut22
                have HO431014 := Aside0.mk (show Kd.V (Kd.int .i64) 2 _ w.heap.size _ (.slice A22 y431010.length c22) y431010 from Kd.V_mk (by rw [hy22, hc22]; exact Nat.sub_le_sub_right (Nat.le_trans (by omega) hroom22) _) hr22)
                have HC431014 := Aside0.mk (show y431010.length ≤ c22 from by rw [hy22, hc22]; exact Nat.sub_le_sub_right (Nat.le_trans (by omega) hroom22) _)
                clear hr22 hC22 hroom22 hi022 hsz22 hc22
                have KY22 := Aside0.mk hy22
                have KA22 := Aside0.mk hA22
                clear hy22 hA22
                replace q22 := eq_true q22
                have q23 : (t431004 : Int) ≤ ((l0.length : Int) : Int) := of_decide_eq_true (by first | (with_reducible assumption) | assumption)
                obtain ⟨i023, hi023, _, hsz23, _⟩ := info_parts info2
                have hroom23 : l0.length ≤ c0 := (Kd.V_reads' HO0.out).2.1
                have hC23 : Kd.F (Kd.int .i64) _ _ A0 l0.length l0 := (Kd.V_at (base := w.heap.size) HO0.out).2.2
                have q023 : (0 : Int) ≤ (t431004 : Int) := of_decide_eq_true (by first | (with_reducible assumption) | assumption)
                have hcut23 := cut_from (P := Try.prog) 22 2 .i64 Try.underlying22 hi023 1 hsz23 A0 l0.length c0 t431004 q023 q23
                have hr23 := Kd.F_cut (m := (t431004 : Int).toNat) (c := c0) hC23 (by omega) hroom23
                obtain ⟨A23, hA23⟩ : ∃ A1, A1 = (if c0 = (t431004 : Int).toNat then A0 else (A0 : Option Addr).map (·.add ((t431004 : Int).toNat * 1))) := ⟨_, rfl⟩
                obtain ⟨c23, hc23⟩ : ∃ c1, c1 = c0 - (t431004 : Int).toNat := ⟨_, rfl⟩
                have hy23 : y431018.length = l0.length - (t431004 : Int).toNat := (by rw [Ny431018.out, List.length_drop] <;> omega)
                rw [show (l0).drop (t431004 : Int).toNat = y431018 from Ny431018.out.symm] at hr23
                replace hr23 : Kd.F (Kd.int .i64) _ _ A23 y431018.length y431018 := (by rw [hA23]; exact hr23)
                rw [← hy23, ← hA23, ← hc23] at hcut23
                have HO431022 := Aside0.mk (show Kd.V (Kd.int .i64) 2 _ w.heap.size _ (.slice A23 y431018.length c23) y431018 from Kd.V_mk (by rw [hy23, hc23]; exact Nat.sub_le_sub_right hroom23 _) hr23)
                have HC431022 := Aside0.mk (show y431018.length ≤ c23 from by rw [hy23, hc23]; exact Nat.sub_le_sub_right hroom23 _)
                clear hr23 hC23 hroom23 hi023 hsz23 hc23
                have KY23 := Aside0.mk hy23
                have KA23 := Aside0.mk hA23
                clear hy23 hA23
                replace q23 := eq_true q23
                refine start_ (n := 18) (S := fun w' => True) (ds := []) #[false, false, false, false, false, false, false, false, false, false, false, false, false, false, false, false, false, false] (by kernel_rfl) rfl rfl trivial (fun hHeld => ?_); refine with_tabW impl_LocalComplement.tab6 impl_LocalComplement.bits6 (fun HT_ HW_ => ?_)
                generalize w19.drew = w20 at HO0 HB HO431009 HO431014 HO431022 hHeld ⊢
                refine pure_ (i := 0) (N := some 23) (v := ?_) (a' := ?_) #[true, false, false, false, false, false, false, false, false, false, false, false, false, false, false, false, false, false] rfl rfl (any_of HT_.out (by kernel_rfl)) (fun _ _ _ h => h) (Or.inl ⟨by rfl, ?_⟩) ?_ ?_
                rotate_left
                · intro w'
                  go_simp
                  with_reducible rfl
                rotate_left
                · simp only [Act.put, List.setIfInBounds_toArray, List.set_cons_zero, List.set_cons_succ, i64_w, i32_w]
                  rfl
                refine pure_ (i := 1) (N := some 24) (v := ?_) (a' := ?_) #[true, true, false, false, false, false, false, false, false, false, false, false, false, false, false, false, false, false] rfl rfl (any_of HT_.out (by kernel_rfl)) (fun _ _ _ h => h) (Or.inl ⟨by rfl, ?_⟩) ?_ ?_
                rotate_left
                · intro w'
                  go_simp
                  with_reducible rfl
                rotate_left
                · simp only [Act.put, List.setIfInBounds_toArray, List.set_cons_zero, List.set_cons_succ, i64_w, i32_w]
                  rfl
                refine pure_ (i := 2) (N := some 25) (v := ?_) (a' := ?_) #[true, true, true, false, false, false, false, false, false, false, false, false, false, false, false, false, false, false] rfl rfl (any_of HT_.out (by kernel_rfl)) (fun _ _ _ h => h) (Or.inl ⟨by rfl, ?_⟩) ?_ ?_
                rotate_left
                · intro w'
                  go_simp
                  with_reducible rfl
                rotate_left
                · simp only [Act.put, List.setIfInBounds_toArray, List.set_cons_zero, List.set_cons_succ, i64_w, i32_w]
                  rfl
                refine pure_ (i := 3) (N := some 26) (v := ?_) (a' := ?_) #[true, true, true, true, false, false, false, false, false, false, false, false, false, false, false, false, false, false] rfl rfl (any_of HT_.out (by kernel_rfl)) (fun _ _ _ h => h) (Or.inl ⟨by rfl, ?_⟩) ?_ ?_
                rotate_left
                · intro w'
                  go_simp
                  with_reducible rfl
                rotate_left
                · simp only [Act.put, List.setIfInBounds_toArray, List.set_cons_zero, List.set_cons_succ, i64_w, i32_w]
                  rfl
                refine pure_ (i := 4) (N := some 27) (v := ?_) (a' := ?_) #[true, true, true, true, true, false, false, false, false, false, false, false, false, false, false, false, false, false] rfl rfl (any_of HT_.out (by kernel_rfl)) (fun _ _ _ h => h) (Or.inl ⟨by rfl, ?_⟩) ?_ ?_
                rotate_left
                · intro w'
                  go_simp
                  with_reducible rfl
                rotate_left
                · simp only [Act.put, List.setIfInBounds_toArray, List.set_cons_zero, List.set_cons_succ, i64_w, i32_w]
                  rfl
                refine pure_ (i := 5) (N := some 28) (v := ?_) (a' := ?_) #[true, true, true, true, true, true, false, false, false, false, false, false, false, false, false, false, false, false] rfl rfl (any_of HT_.out (by kernel_rfl)) (fun _ _ _ h => h) (Or.inl ⟨by rfl, ?_⟩) ?_ ?_
                rotate_left
                · intro w'
                  go_simp
                  with_reducible rfl
                rotate_left
                · simp only [Act.put, List.setIfInBounds_toArray, List.set_cons_zero, List.set_cons_succ, i64_w, i32_w]
                  rfl
                refine pure_ (i := 6) (N := some 29) (v := ?_) (a' := ?_) #[true, true, true, true, true, true, true, false, false, false, false, false, false, false, false, false, false, false] rfl rfl (any_of HT_.out (by kernel_rfl)) (fun _ _ _ h => h) (Or.inl ⟨by rfl, ?_⟩) ?_ ?_
                rotate_left
                · intro w'
                  go_simp
                  with_reducible rfl
                rotate_left
                · simp only [Act.put, List.setIfInBounds_toArray, List.set_cons_zero, List.set_cons_succ, i64_w, i32_w]
                  rfl
                refine pure_ (i := 7) (N := some 30) (v := ?_) (a' := ?_) #[true, true, true, true, true, true, true, true, false, false, false, false, false, false, false, false, false, false] rfl rfl (any_of HT_.out (by kernel_rfl)) (fun _ _ _ h => h) (Or.inl ⟨by rfl, ?_⟩) ?_ ?_
                rotate_left
                · intro w'
                  go_simp
                  with_reducible rfl
                rotate_left
                · simp only [Act.put, List.setIfInBounds_toArray, List.set_cons_zero, List.set_cons_succ, i64_w, i32_w]
                  rfl
                refine pure_ (i := 8) (N := some 31) (v := ?_) (a' := ?_) #[true, true, true, true, true, true, true, true, true, false, false, false, false, false, false, false, false, false] rfl rfl (any_of HT_.out (by kernel_rfl)) (fun _ _ _ h => h) (Or.inl ⟨by rfl, ?_⟩) ?_ ?_
                rotate_left
                · intro w'
                  go_simp
                  with_reducible rfl
                rotate_left
                · simp only [Act.put, List.setIfInBounds_toArray, List.set_cons_zero, List.set_cons_succ, i64_w, i32_w]
                  rfl
                refine pure_ (i := 10) (N := some 33) (v := ?_) (a' := ?_) #[true, true, true, true, true, true, true, true, true, false, true, false, false, false, false, false, false, false] rfl rfl (any_of HT_.out (by kernel_rfl)) (fun _ _ _ h => h) (Or.inl ⟨by rfl, ?_⟩) ?_ ?_
                rotate_left
                · intro w'
                  go_simp
                  with_reducible rfl
                rotate_left
                · simp only [Act.put, List.setIfInBounds_toArray, List.set_cons_zero, List.set_cons_succ, i64_w, i32_w]
                  rfl
                refine pure_ (i := 11) (N := some 34) (v := ?_) (a' := ?_) #[true, true, true, true, true, true, true, true, true, false, true, true, false, false, false, false, false, false] rfl rfl (any_of HT_.out (by kernel_rfl)) (fun _ _ _ h => h) (Or.inl ⟨by rfl, ?_⟩) ?_ ?_
                rotate_left
                · intro w'
                  go_simp
                  with_reducible rfl
                rotate_left
                · simp only [Act.put, List.setIfInBounds_toArray, List.set_cons_zero, List.set_cons_succ, i64_w, i32_w]
                  rfl
                refine pure_ (i := 12) (N := some 35) (v := ?_) (a' := ?_) #[true, true, true, true, true, true, true, true, true, false, true, true, true, false, false, false, false, false] rfl rfl (any_of HT_.out (by kernel_rfl)) (fun _ _ _ h => h) (Or.inl ⟨by rfl, ?_⟩) ?_ ?_
                rotate_left
                · intro w'
                  go_simp
                  with_reducible rfl
                rotate_left
                · simp only [Act.put, List.setIfInBounds_toArray, List.set_cons_zero, List.set_cons_succ, i64_w, i32_w]
                  rfl
                refine one_ (i := 9) (N := some 32) #[true, true, true, true, true, true, true, true, true, true, true, true, true, false, false, false, false, false] rfl rfl (one_of HT_.out (by kernel_rfl)) (by decide) (fun K hK => ?_)
                refine goes_ Try.func107 (by kernel_rfl) rfl #[.slice A22 y431010.length c22] (by rfl) rfl rfl (by (try simp only [List.map_toArray, List.map_cons, List.map_nil]); first | done | rfl | (simp only [List.length_drop, List.length_take]; rfl)) ?_
                with_reducible refine (impl_reversed.calls k _ _ y431010 t431015 _ ?side1 ?side2 A14.out).mono ?_
                (case side1 => repeat (first | exact (Kd.V_reads' HO431014.out).2.2 | (with_reducible refine Kd.C_alloc ?_ _) | (with_reducible refine Kd.C_drewN ?_ _) | (with_reducible refine Kd.C_drew ?_)))
                (case side2 => exact (Kd.V_reads' HO431014.out).2.1)
                rintro e w24 ⟨v431016, rfl, ho0, hb⟩
                refine ⟨_, rfl, ?_⟩
                have n0_ := Aside0.mk (Kd.V_elder' (by (with_reducible repeat (first | apply Kd.V_alloc | apply Kd.V_drewN | apply Kd.V_drew)); exact HO0.out) (Kd.R_base ho0) hb)
                have n1_ := Aside0.mk (Kd.V_elder' (by (with_reducible repeat (first | apply Kd.V_alloc | apply Kd.V_drewN | apply Kd.V_drew)); exact HO431009.out) (Kd.R_base ho0) hb)
                have n2_ := Aside0.mk (Kd.V_elder' (by (with_reducible repeat (first | apply Kd.V_alloc | apply Kd.V_drewN | apply Kd.V_drew)); exact HO431014.out) (Kd.R_base ho0) hb)
                have n3_ := Aside0.mk (Kd.V_elder' (by (with_reducible repeat (first | apply Kd.V_alloc | apply Kd.V_drewN | apply Kd.V_drew)); exact HO431022.out) (Kd.R_base ho0) hb)
                have n4_ := Aside0.mk (Kd.R_lower (Kd.R_newM (M := fun k_ => (w.heap.size ≤ k_)) ho0 (below_size (by repeat (first | (with_reducible first | exact HB.out | apply below_alloc | apply pw_below_drewN | apply below_drew1) | exact HB.out))) (fun k_ h_ => h_)) (below_size (by repeat (first | (with_reducible first | exact HB.out | apply below_alloc | apply pw_below_drewN | apply below_drew1) | exact HB.out))))
                have n5_ := Aside0.mk (below_step (by repeat (first | (with_reducible first | exact HB.out | apply below_alloc | apply pw_below_drewN | apply below_drew1) | exact HB.out)) hb)
                clear HO0
                clear HO431009
                clear HO431014
                clear HO431022
                clear HB
                have HO0 := n0_
                have HO431009 := n1_
                have HO431014 := n2_
                have HO431022 := n3_
                have HO431017 := n4_
                have HB := n5_
                clear n0_ n1_ n2_ n3_ n4_ n5_
                (try clear hb)
                (try clear hb2)
                (try clear hk)
                (try clear hi)
                (try clear ho0)
                obtain ⟨Ao25, co25, eo25⟩ := Kd.R_slice HO431017.out
                (first | subst eo25 | (injection eo25 with f1_ f2_ f3_; have f4_ := f1_.symm; have f5_ := f3_.symm; clear f1_ f2_ f3_; subst f4_; subst f5_))
                refine hK.out _ _ trivial (fun hHeld => ?_)
                clear hK K
                refine norm_ (a' := ?_) ?_ ?_
                rotate_left
                · show Act.put _ (some 32) _ = _
                  simp only [Act.put, List.setIfInBounds_toArray, List.set_cons_zero, List.set_cons_succ, i64_w, i32_w]
                  rfl
                refine one_ (i := 13) (N := some 36) #[true, true, true, true, true, true, true, true, true, true, true, true, true, true, false, false, false, false] rfl rfl (one_of HT_.out (by kernel_rfl)) (by decide) (fun K hK => ?_)
                refine Kd.N_lit_step (Kd.slice 2 (Kd.int .i64)) _ 22 ?hg (N' := 36) ?hd (xs := ([y431005, t431015, y431018] : List (List Int))) (inner := [.slice A0 y431005.length c0, .slice Ao25 t431015.length co25, .slice A23 y431018.length c23]) (ok := (fun k_ => (P0_ k_ ∨ w.heap.size ≤ k_))) (okp := (fun k_ => (P0_ k_ ∨ w.heap.size ≤ k_))) ?hr ?hp (fun _ hk => hk) ((show ∀ k_, w24.heap.size ≤ k_ → (fun k_ => (P0_ k_ ∨ w.heap.size ≤ k_)) k_ from fun k_ hk => (.inr (Nat.le_trans (below_size (by repeat (first | (with_reducible first | exact HB.out | apply below_alloc | apply pw_below_drewN | apply below_drew1) | exact HB.out))) hk))) _ (Nat.le_refl _)) (Below.refl _ _) (Nat.le_refl _) (by simp) ?_; (case hd => rfl); (case hg => rfl); (case hr => first | (go_simp; done) | (go_simp; rfl)); (case hp => exact (Reps.one (show Kd.FK (Kd.slice 2 (Kd.int .i64)) _ _ y431005 [.slice A0 y431005.length c0] from (Kd.FK_slice_mk (Kd.V_reads' (Kd.V_mono (ok' := (fun k_ => (P0_ k_ ∨ w.heap.size ≤ k_))) (HO431009.out) (fun k_ hk => hk.1))).2.1 (Kd.V_F (Kd.V_mono (ok' := (fun k_ => (P0_ k_ ∨ w.heap.size ≤ k_))) (HO431009.out) (fun k_ hk => hk.1))))) (Reps.one (show Kd.FK (Kd.slice 2 (Kd.int .i64)) _ _ t431015 [.slice Ao25 t431015.length co25] from (Kd.FK_slice_mk (Kd.R_reads' (Kd.R_mono (ok' := (fun k_ => (P0_ k_ ∨ w.heap.size ≤ k_))) (HO431017.out) (fun k_ hk => (.inr (hk.1))))).2.1 (Kd.R_F (Kd.R_mono (ok' := (fun k_ => (P0_ k_ ∨ w.heap.size ≤ k_))) (HO431017.out) (fun k_ hk => (.inr (hk.1))))))) (Reps.one (show Kd.FK (Kd.slice 2 (Kd.int .i64)) _ _ y431018 [.slice A23 y431018.length c23] from (Kd.FK_slice_mk (Kd.V_reads' (Kd.V_mono (ok' := (fun k_ => (P0_ k_ ∨ w.heap.size ≤ k_))) (HO431022.out) (fun k_ hk => hk.1))).2.1 (Kd.V_F (Kd.V_mono (ok' := (fun k_ => (P0_ k_ ∨ w.heap.size ≤ k_))) (HO431022.out) (fun k_ hk => hk.1))))) (Reps.none _ _)))))
                intro v431024 w26 ho27 hb hg_ hnew_
                clear hg_ hnew_
                (first | rw [← Ny431023.out] at ho27 | (simp only [Int.reduceToNat] at ho27; rw [← Ny431023.out] at ho27))
                have n0_ := Aside0.mk (Kd.V_elder' (by (with_reducible repeat (first | apply Kd.V_alloc | apply Kd.V_drewN | apply Kd.V_drew)); exact HO0.out) (Kd.N_base ho27) hb)
                have n1_ := Aside0.mk (Kd.V_elder' (by (with_reducible repeat (first | apply Kd.V_alloc | apply Kd.V_drewN | apply Kd.V_drew)); exact HO431009.out) (Kd.N_base ho27) hb)
                have n2_ := Aside0.mk (Kd.V_elder' (by (with_reducible repeat (first | apply Kd.V_alloc | apply Kd.V_drewN | apply Kd.V_drew)); exact HO431014.out) (Kd.N_base ho27) hb)
                have n3_ := Aside0.mk (Kd.V_elder' (by (with_reducible repeat (first | apply Kd.V_alloc | apply Kd.V_drewN | apply Kd.V_drew)); exact HO431022.out) (Kd.N_base ho27) hb)
                have n4_ := Aside0.mk (Kd.N_lower ho27 (below_size (by repeat (first | (with_reducible first | exact HB.out | apply below_alloc | apply pw_below_drewN | apply below_drew1) | exact HB.out))))
                have n5_ := Aside0.mk (below_step (by repeat (first | (with_reducible first | exact HB.out | apply below_alloc | apply pw_below_drewN | apply below_drew1) | exact HB.out)) hb)
                clear HO0
                clear HO431009
                clear HO431014
                clear HO431022
                clear HB
                clear HO431017
                have HO0 := n0_
                have HO431009 := n1_
                have HO431014 := n2_
                have HO431022 := n3_
                have HO431025 := n4_
                have HB := n5_
                clear n0_ n1_ n2_ n3_ n4_ n5_
                clear hb ho27
                obtain ⟨Ao28, co28, eo28⟩ := Kd.N_slice HO431025.out
                (first | subst eo28 | (injection eo28 with f1_ f2_ f3_; have f4_ := f1_.symm; have f5_ := f3_.symm; clear f1_ f2_ f3_; subst f4_; subst f5_))
                refine hK.out _ _ trivial (fun hHeld => ?_)
                clear hK K
                refine norm_ (a' := ?_) ?_ ?_
                rotate_left
                · show Act.put _ (some 36) _ = _
                  simp only [Act.put, List.setIfInBounds_toArray, List.set_cons_zero, List.set_cons_succ, i64_w, i32_w]
                  rfl
                refine one_ (i := 14) (N := some 37) #[true, true, true, true, true, true, true, true, true, true, true, true, true, true, true, false, false, false] rfl rfl (one_of HT_.out (by kernel_rfl)) (by decide) (fun K hK => ?_)
                refine goes_ Try.func106 (by kernel_rfl) rfl #[.slice Ao28 y431023.length co28] (by rfl) rfl rfl (by (try simp only [List.map_toArray, List.map_cons, List.map_nil]); first | done | rfl | (simp only [List.length_drop, List.length_take]; rfl)) ?_
                with_reducible refine (slices_Concat_int64_int64.calls _ _ y431023 t431026 _ ?side1 ?side2 A17.out).mono ?_
                (case side1 => repeat (first | exact (Kd.N_reads' HO431025.out).2.2 | (with_reducible refine Kd.C_alloc ?_ _) | (with_reducible refine Kd.C_drewN ?_ _) | (with_reducible refine Kd.C_drew ?_)))
                (case side2 => exact (Kd.N_reads' HO431025.out).2.1)
                rintro e w29 ⟨v431027, rfl, ho0, hb⟩
                refine ⟨_, rfl, ?_⟩
                have n0_ := Aside0.mk (Kd.V_elder' (by (with_reducible repeat (first | apply Kd.V_alloc | apply Kd.V_drewN | apply Kd.V_drew)); exact HO0.out) (Kd.R_base ho0) hb)
                have n1_ := Aside0.mk (Kd.V_elder' (by (with_reducible repeat (first | apply Kd.V_alloc | apply Kd.V_drewN | apply Kd.V_drew)); exact HO431009.out) (Kd.R_base ho0) hb)
                have n2_ := Aside0.mk (Kd.V_elder' (by (with_reducible repeat (first | apply Kd.V_alloc | apply Kd.V_drewN | apply Kd.V_drew)); exact HO431014.out) (Kd.R_base ho0) hb)
                have n3_ := Aside0.mk (Kd.V_elder' (by (with_reducible repeat (first | apply Kd.V_alloc | apply Kd.V_drewN | apply Kd.V_drew)); exact HO431022.out) (Kd.R_base ho0) hb)
                have n4_ := Aside0.mk (Kd.N_elder' (by (with_reducible repeat (first | apply Kd.N_alloc | apply Kd.N_drewN | apply Kd.N_drew)); exact HO431025.out) (Kd.R_base ho0) hb)
                have n5_ := Aside0.mk (Kd.R_lower (Kd.R_newM (M := fun k_ => (w.heap.size ≤ k_)) ho0 (below_size (by repeat (first | (with_reducible first | exact HB.out | apply below_alloc | apply pw_below_drewN | apply below_drew1) | exact HB.out))) (fun k_ h_ => h_)) (below_size (by repeat (first | (with_reducible first | exact HB.out | apply below_alloc | apply pw_below_drewN | apply below_drew1) | exact HB.out))))
                have n6_ := Aside0.mk (below_step (by repeat (first | (with_reducible first | exact HB.out | apply below_alloc | apply pw_below_drewN | apply below_drew1) | exact HB.out)) hb)
                clear HO0
                clear HO431009
                clear HO431014
                clear HO431022
                clear HO431025
                clear HB
                have HO0 := n0_
                have HO431009 := n1_
                have HO431014 := n2_
                have HO431022 := n3_
                have HO431025 := n4_
                have HO431028 := n5_
                have HB := n6_
                clear n0_ n1_ n2_ n3_ n4_ n5_ n6_
                (try clear hb)
                (try clear hb2)
                (try clear hk)
                (try clear hi)
                (try clear ho0)
                obtain ⟨Ao30, co30, eo30⟩ := Kd.R_slice HO431028.out
                (first | subst eo30 | (injection eo30 with f1_ f2_ f3_; have f4_ := f1_.symm; have f5_ := f3_.symm; clear f1_ f2_ f3_; subst f4_; subst f5_))
                refine hK.out _ _ trivial (fun hHeld => ?_)
                clear hK K
                refine norm_ (a' := ?_) ?_ ?_
                rotate_left
                · show Act.put _ (some 37) _ = _
                  simp only [Act.put, List.setIfInBounds_toArray, List.set_cons_zero, List.set_cons_succ, i64_w, i32_w]
                  rfl
                refine one_ (i := 15) (N := some 38) #[true, true, true, true, true, true, true, true, true, true, true, true, true, true, true, true, false, false] rfl rfl (one_of HT_.out (by kernel_rfl)) (by decide) (fun K hK => ?_)
                refine goes_ Try.func105 (by kernel_rfl) rfl #[.slice Ao30 t431026.length co30] (by rfl) rfl rfl (by (try simp only [List.map_toArray, List.map_cons, List.map_nil]); first | done | rfl | (simp only [List.length_drop, List.length_take]; rfl)) ?_
                with_reducible refine (impl_normal.calls _ _ t431026 t431029 _ ?side1 ?side2 A18.out).mono ?_
                (case side1 => repeat (first | exact (Kd.R_reads' HO431028.out).2.2 | (with_reducible refine Kd.C_alloc ?_ _) | (with_reducible refine Kd.C_drewN ?_ _) | (with_reducible refine Kd.C_drew ?_)))
                (case side2 => exact (Kd.R_reads' HO431028.out).2.1)
                rintro e w31 ⟨v431030, rfl, ho0, hb⟩
                refine ⟨_, rfl, ?_⟩
                have n0_ := Aside0.mk (Kd.V_elder' (by (with_reducible repeat (first | apply Kd.V_alloc | apply Kd.V_drewN | apply Kd.V_drew)); exact HO0.out) (Kd.R_base ho0) hb)
                have n1_ := Aside0.mk (Kd.V_elder' (by (with_reducible repeat (first | apply Kd.V_alloc | apply Kd.V_drewN | apply Kd.V_drew)); exact HO431009.out) (Kd.R_base ho0) hb)
                have n2_ := Aside0.mk (Kd.V_elder' (by (with_reducible repeat (first | apply Kd.V_alloc | apply Kd.V_drewN | apply Kd.V_drew)); exact HO431014.out) (Kd.R_base ho0) hb)
                have n3_ := Aside0.mk (Kd.V_elder' (by (with_reducible repeat (first | apply Kd.V_alloc | apply Kd.V_drewN | apply Kd.V_drew)); exact HO431022.out) (Kd.R_base ho0) hb)
                have n4_ := Aside0.mk (Kd.N_elder' (by (with_reducible repeat (first | apply Kd.N_alloc | apply Kd.N_drewN | apply Kd.N_drew)); exact HO431025.out) (Kd.R_base ho0) hb)
                have n5_ := Aside0.mk (Kd.R_elder' (by (with_reducible repeat (first | apply Kd.R_alloc | apply Kd.R_drewN | apply Kd.R_drew)); exact HO431028.out) (Kd.R_base ho0) hb)
                have n6_ := Aside0.mk (Kd.R_lower (Kd.R_new' (Kd.R_newM (M := fun k_ => (w.heap.size ≤ k_)) ho0 (below_size (by repeat (first | (with_reducible first | exact HB.out | apply below_alloc | apply pw_below_drewN | apply below_drew1) | exact HB.out))) (fun k_ h_ => h_)) (Kd.R_lt (by (with_reducible repeat (first | apply Kd.R_alloc | apply Kd.R_drewN | apply Kd.R_drew)); exact HO431028.out))) (below_size (by repeat (first | (with_reducible first | exact HB.out | apply below_alloc | apply pw_below_drewN | apply below_drew1) | exact HB.out))))
                have n7_ := Aside0.mk (below_step (by repeat (first | (with_reducible first | exact HB.out | apply below_alloc | apply pw_below_drewN | apply below_drew1) | exact HB.out)) hb)
                clear HO0
                clear HO431009
                clear HO431014
                clear HO431022
                clear HO431025
                clear HO431028
                clear HB
                have HO0 := n0_
                have HO431009 := n1_
                have HO431014 := n2_
                have HO431022 := n3_
                have HO431025 := n4_
                have HO431028 := n5_
                have HO431031 := n6_
                have HB := n7_
                clear n0_ n1_ n2_ n3_ n4_ n5_ n6_ n7_
                (try clear hb)
                (try clear hb2)
                (try clear hk)
                (try clear hi)
                (try clear ho0)
                refine hK.out _ _ trivial (fun hHeld => ?_)
                clear hK K
                refine norm_ (a' := ?_) ?_ ?_
                rotate_left
                · show Act.put _ (some 38) _ = _
                  simp only [Act.put, List.setIfInBounds_toArray, List.set_cons_zero, List.set_cons_succ, i64_w, i32_w]
                  rfl
                refine pure_ (i := 16) (N := some 4) (v := ?_) (a' := ?_) #[true, true, true, true, true, true, true, true, true, true, true, true, true, true, true, true, true, false] rfl rfl (any_of HT_.out (by kernel_rfl)) (fun _ _ _ h => h) (Or.inl ⟨by rfl, ?_⟩) ?_ ?_
                rotate_left
                · intro w'
                  go_simp
                  with_reducible rfl
                rotate_left
                · simp only [Act.put, List.setIfInBounds_toArray, List.set_cons_zero, List.set_cons_succ, i64_w, i32_w]
                  rfl
                refine pure_ (i := 17) (N := some 5) (v := ?_) (a' := ?_) #[true, true, true, true, true, true, true, true, true, true, true, true, true, true, true, true, true, true] rfl rfl (any_of HT_.out (by kernel_rfl)) (fun _ _ _ h => h) (Or.inl ⟨by rfl, ?_⟩) ?_ ?_
                rotate_left
                · intro w'
                  go_simp
                  with_reducible rfl
                rotate_left
                · simp only [Act.put, List.setIfInBounds_toArray, List.set_cons_zero, List.set_cons_succ, i64_w, i32_w]
                  rfl
                refine done_ (done_of HT_.out (by kernel_rfl)) ?_
                try go_wp2
                go_ret2
                exact ⟨_, by first | rfl | (simp [errW_none, errW_some] <;> rfl) | (simp only [← hji8]; first | rfl | (simp [errW_none, errW_some] <;> rfl)) | (simp [*, errW_none, errW_some] <;> rfl), by (with_reducible repeat (first | apply Kd.R_alloc | apply Kd.R_drewN | apply Kd.R_drew)); exact Kd.R_mono HO431031.out (fun _ hk => hk.1.1), by repeat (first | (with_reducible first | exact HB.out | apply below_alloc | apply pw_below_drewN | apply below_drew1) | exact HB.out)⟩
              · rw [if_neg c15] at H
                exact absurd H (by simp)
            · rw [if_neg c13] at H
              exact absurd H (by simp)
          · rw [if_neg c12] at H
            exact absurd H (by simp)
        · rw [if_neg c10] at H
          exact absurd H (by simp)
      · rw [if_neg c9] at H
        exact absurd H (by simp)
    · replace c6 := Bool.eq_false_iff.mpr c6
      subst c6
      have H1 : (some (([] : List Int), 2)) = some (r1, r2) := by rw [if_neg (show ¬ (false = true) by decide)] at H; exact H
      clear H
      have H := H1
      clear H1
      simp only [Option.some.injEq, Prod.mk.injEq] at H
      obtain ⟨rfl, rfl⟩ := H
      go_enter Try.func43, Try.ntmps43
      go_wp2_with (first | ((with_reducible refine gate_callee (f := 84) rfl ?_); refine goesL_ (some 10) rfl rfl Try.func84 (by kernel_rfl) rfl #[.slice A0 l0.length c0] rfl (by (try simp only [List.map_toArray, List.map_cons, List.map_nil]); first | done | rfl | (simp only [List.length_drop, List.length_take]; rfl)) ?_; (with_reducible refine (impl_IsWord.calls k _ _ l0 true _ ?side1 ?side2 A3.out).mono ?_); (case side1 => repeat (first | exact (Kd.V_reads' HO0.out).2.2 | (with_reducible refine Kd.C_alloc ?_ _) | (with_reducible refine Kd.C_drewN ?_ _) | (with_reducible refine Kd.C_drew ?_))); (case side2 => exact (Kd.V_reads' HO0.out).2.1); rintro e w32 ⟨rfl, hb⟩; refine ⟨_, rfl, ?_⟩; have n0_ := Aside0.mk (Kd.V_below (by (with_reducible repeat (first | apply Kd.V_alloc | apply Kd.V_drewN | apply Kd.V_drew)); exact HO0.out) hb); have n1_ := Aside0.mk (below_step (by repeat (first | (with_reducible first | exact HB.out | apply below_alloc | apply pw_below_drewN | apply below_drew1) | exact HB.out)) hb); clear HO0; clear HB; have HO0 := n0_; have HB := n1_; clear n0_ n1_; (try clear hb); (try clear hb2); (try clear hk); (try clear hi)) | ((with_reducible refine gate_callee (f := 103) rfl ?_); refine goesL_ (some 15) rfl rfl Try.func103 (by kernel_rfl) rfl #[.slice A0 l0.length c0, .int .i64 a1] rfl (by (try simp only [List.map_toArray, List.map_cons, List.map_nil]); first | done | rfl | (simp only [List.length_drop, List.length_take]; rfl)) ?_; (with_reducible refine (impl_isChord.calls _ _ l0 a1 false _ ?side1 ?side2 A5.out).mono ?_); (case side1 => repeat (first | exact (Kd.V_reads' HO0.out).2.2 | (with_reducible refine Kd.C_alloc ?_ _) | (with_reducible refine Kd.C_drewN ?_ _) | (with_reducible refine Kd.C_drew ?_))); (case side2 => exact (Kd.V_reads' HO0.out).2.1); rintro e w' ⟨rfl, ⟨nd, rfl⟩⟩; refine ⟨_, rfl, ?_⟩))
      go_ret2
      exact ⟨_, by first | rfl | (simp [errW_none, errW_some] <;> rfl) | (simp [*, errW_none, errW_some] <;> rfl), by first | exact Kd.R_nil _ _ _ _ _ | exact Kd.N_nil _ _ _ _ _ | exact Kd.V_nil _ _ _ _ _ | exact Kd.Q_nil _ _ _ _ _ | exact Kd.S_nil _ _ _ _ _, by repeat (first | (with_reducible first | exact HB.out | apply below_alloc | apply pw_below_drewN | apply below_drew1) | exact HB.out)⟩
  · replace c4 := Bool.eq_false_iff.mpr c4
    subst c4
    have H1 : (some (([] : List Int), 1)) = some (r1, r2) := by rw [if_neg (show ¬ (false = true) by decide)] at H; exact H
    clear H
    have H := H1
    clear H1
    simp only [Option.some.injEq, Prod.mk.injEq] at H
    obtain ⟨rfl, rfl⟩ := H
    go_enter Try.func43, Try.ntmps43
    go_wp2_with (first | ((with_reducible refine gate_callee (f := 84) rfl ?_); refine goesL_ (some 10) rfl rfl Try.func84 (by kernel_rfl) rfl #[.slice A0 l0.length c0] rfl (by (try simp only [List.map_toArray, List.map_cons, List.map_nil]); first | done | rfl | (simp only [List.length_drop, List.length_take]; rfl)) ?_; (with_reducible refine (impl_IsWord.calls k _ _ l0 false _ ?side1 ?side2 A3.out).mono ?_); (case side1 => repeat (first | exact (Kd.V_reads' HO0.out).2.2 | (with_reducible refine Kd.C_alloc ?_ _) | (with_reducible refine Kd.C_drewN ?_ _) | (with_reducible refine Kd.C_drew ?_))); (case side2 => exact (Kd.V_reads' HO0.out).2.1); rintro e w33 ⟨rfl, hb⟩; refine ⟨_, rfl, ?_⟩; have n0_ := Aside0.mk (Kd.V_below (by (with_reducible repeat (first | apply Kd.V_alloc | apply Kd.V_drewN | apply Kd.V_drew)); exact HO0.out) hb); have n1_ := Aside0.mk (below_step (by repeat (first | (with_reducible first | exact HB.out | apply below_alloc | apply pw_below_drewN | apply below_drew1) | exact HB.out)) hb); clear HO0; clear HB; have HO0 := n0_; have HB := n1_; clear n0_ n1_; (try clear hb); (try clear hb2); (try clear hk); (try clear hi)))
    go_ret2
    exact ⟨_, by first | rfl | (simp [errW_none, errW_some] <;> rfl) | (simp [*, errW_none, errW_some] <;> rfl), by first | exact Kd.R_nil _ _ _ _ _ | exact Kd.N_nil _ _ _ _ _ | exact Kd.V_nil _ _ _ _ _ | exact Kd.Q_nil _ _ _ _ _ | exact Kd.S_nil _ _ _ _ _, by repeat (first | (with_reducible first | exact HB.out | apply below_alloc | apply pw_below_drewN | apply below_drew1) | exact HB.out)⟩

end Go.Proofs.Ytfijnlbkflmkbaa.F
