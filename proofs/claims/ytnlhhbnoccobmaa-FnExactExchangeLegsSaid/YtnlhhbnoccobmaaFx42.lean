/- What spec_ExchangeLegs answers, and that the Go text comes to it: for every world in which the arguments read as told. -/
import Derived.Test.YtnlhhbnoccobmaaFgA
import Derived.Test.YtnlhhbnoccobmaaFx110
import Derived.Test.YtnlhhbnoccobmaaFx122
namespace Go.Proofs.Ytnlhhbnoccobmaa.F
open Go.RowKit Go.Proofs.YtnlhhbnoccobmaaW.PrintWords Go.Proofs.YtnlhhbnoccobmaaW.PrintLast Go.Proofs.YtnlhhbnoccobmaaW.PrintMore
attribute [local go_sem] max2_int min2_int max_two min_two max_three min_three max_four min_four   -- for this text's walks alone
set_option linter.unusedVariables false
set_option linter.unusedSimpArgs false

/-! ### spec_ExchangeLegs: function 42 -/
def spec_ExchangeLegs.f (k : Nat) (l0_0 : List Int) (l0_1 : List (List Int)) (a1 : Int) : Option (List Int × (List (List Int)) × Int) := (spec_l06Code.f k l0_0 l0_1 a1).bind fun t421003 => (if t421003 = 0 then ((spec_l06Copy.f k l0_0 l0_1).bind fun bt421004 => (if 0 ≤ a1 then (if a1 < (bt421004.1.length : Int) then (if 0 ≤ (wrap64 (a1 + 1)) then (if (wrap64 (a1 + 1)) < (bt421004.1.length : Int) then (some (((bt421004.1.set (a1 : Int).toNat (rd bt421004.1 (wrap64 (a1 + 1)))).set ((wrap64 (a1 + 1)) : Int).toNat (rd bt421004.1 a1)), bt421004.2, 0)) else (none)) else (none)) else (none)) else (none))) else (some (([] : List Int), ([] : List (List Int)), t421003)))
theorem spec_ExchangeLegs.mono : ∀ a0 a1 a2 k, LeO (spec_ExchangeLegs.f k a0 a1 a2) (spec_ExchangeLegs.f (k + 1) a0 a1 a2) := by
 intro a0 a1 a2 k
 unfold spec_ExchangeLegs.f
 repeat' first
   | (with_reducible exact spec_l06Code.mono _ _ _ _)
   | (with_reducible exact spec_l06Copy.mono _ _ _)
   | (with_reducible exact LeO.refl _)
   | (with_reducible exact LeO.none _)
   | (with_reducible refine LeO.ite ?_ ?_)
   | (with_reducible refine LeO.bind ?_ (fun _ => ?_))
   | exact spec_l06Code.mono _ _ _ _
   | exact spec_l06Copy.mono _ _ _
   | exact LeO.none _
   | refine LeO.ite ?_ ?_
   | refine LeO.bind ?_ (fun _ => ?_)
def spec_ExchangeLegs.T6 : Bool × List (List Nat × List Nat) := (true, [([], []), ([0], [0]), ([], []), ([], []), ([3], [3]), ([], []), ([5], [5]), ([4, 6], [4, 6]), ([7], [7]), ([1, 2, 0, 1, 2, 3, 4, 5, 6, 7, 8], [1, 2]), ([9, 8, 0, 1, 2, 3, 4, 5, 6, 7, 8], [8, 9])])
def spec_ExchangeLegs.B6 : List Nat := [0, 1, 0, 0, 8, 0, 32, 120, 248, 511, 1023]
theorem spec_ExchangeLegs.tab6 : rtab .any (opsOf Try.f42 6) = spec_ExchangeLegs.T6 := by kernel_rfl
theorem spec_ExchangeLegs.bits6 : waitsOk spec_ExchangeLegs.T6.2 spec_ExchangeLegs.B6 = true := by kernel_rfl
set_option maxHeartbeats 8000000 in
set_option maxRecDepth 100000 in
theorem spec_ExchangeLegs.calls (k : Nat) (A0_0 : Option Addr) (c0_0 : Nat) (l0_0 : List Int) (A0_1 : Option Addr) (c0_1 : Nat) (l0_1 : List (List Int)) (a1 : Int) (r1 : List Int) (r2 : List (List Int)) (r3 : Int) (w : World) (hr0_0 : Kd.C (Kd.int .i64) w A0_0 l0_0.length l0_0) (hc0_0 : l0_0.length ≤ c0_0) (hr0_1 : Kd.C (Kd.slice 2 (Kd.int .i64)) w A0_1 l0_1.length l0_1) (hc0_1 : l0_1.length ≤ c0_1) (h : spec_ExchangeLegs.f k l0_0 l0_1 a1 = some (r1, r2, r3)) :
  Calls Try.prog 42 #[.agg #[.slice A0_0 l0_0.length c0_0, .slice A0_1 l0_1.length c0_1], .int .i64 a1] w fun e w' => ∃ v0_ v1_ : Value, e = .returned (.tuple #[.agg #[v0_, v1_], .int .i64 r3]) ∧ Kd.R (Kd.int .i64) 2 w' w.heap.size (fun _ => True) v0_ r1 ∧ Kd.S (Kd.slice 2 (Kd.int .i64)) 22 w' w.heap.size (fun k_ => some k_ ≠ (v0_ : Value).ownBlock) v1_ r2 ∧ Below w.heap.size w w' := by
 have hu28 := Try.underlying28
 have HR0_0 := Aside0.mk hr0_0
 have HC0_0 := Aside0.mk hc0_0
 clear hr0_0 hc0_0
 have HR0_1 := Aside0.mk hr0_1
 have HC0_1 := Aside0.mk hc0_1
 clear hr0_1 hc0_1
 have HB := Aside0.mk (Below.refl w.heap.size w)
 have H : ((spec_l06Code.f k l0_0 l0_1 a1).bind fun t421003 => (if t421003 = 0 then ((spec_l06Copy.f k l0_0 l0_1).bind fun bt421004 => (if 0 ≤ a1 then (if a1 < (bt421004.1.length : Int) then (if 0 ≤ (wrap64 (a1 + 1)) then (if (wrap64 (a1 + 1)) < (bt421004.1.length : Int) then (some (((bt421004.1.set (a1 : Int).toNat (rd bt421004.1 (wrap64 (a1 + 1)))).set ((wrap64 (a1 + 1)) : Int).toNat (rd bt421004.1 a1)), bt421004.2, 0)) else (none)) else (none)) else (none)) else (none))) else (some (([] : List Int), ([] : List (List Int)), t421003)))) = some (r1, r2, r3) := h
 clear h
 replace H := Option.bind_eq_some_iff.mp H
 obtain ⟨t421003, A30, H⟩ := H
 replace H : (if t421003 = 0 then ((spec_l06Copy.f k l0_0 l0_1).bind fun bt421004 => (if 0 ≤ a1 then (if a1 < (bt421004.1.length : Int) then (if 0 ≤ (wrap64 (a1 + 1)) then (if (wrap64 (a1 + 1)) < (bt421004.1.length : Int) then (some (((bt421004.1.set (a1 : Int).toNat (rd bt421004.1 (wrap64 (a1 + 1)))).set ((wrap64 (a1 + 1)) : Int).toNat (rd bt421004.1 a1)), bt421004.2, 0)) else (none)) else (none)) else (none)) else (none))) else (some (([] : List Int), ([] : List (List Int)), t421003))) = some (r1, r2, r3) := H
 have A3 := Aside0.mk A30
 clear A30
 by_cases c4 : t421003 = 0
 ·rw [if_pos c4] at H
  have c4b0 : (t421003 == 0) = true := beq_iff_eq.mpr c4
  have c4b1 : (t421003 != 0) = false := bne_eq_false_iff_eq.mpr c4
  clear c4
  replace H := Option.bind_eq_some_iff.mp H
  obtain ⟨⟨t421004, t421007⟩, A50, H⟩ := H
  replace H : (if 0 ≤ a1 then (if a1 < (t421004.length : Int) then (if 0 ≤ (wrap64 (a1 + 1)) then (if (wrap64 (a1 + 1)) < (t421004.length : Int) then (some (((t421004.set (a1 : Int).toNat (rd t421004 (wrap64 (a1 + 1)))).set ((wrap64 (a1 + 1)) : Int).toNat (rd t421004 a1)), t421007, 0)) else (none)) else (none)) else (none)) else (none)) = some (r1, r2, r3) := H
  have A5 := Aside0.mk A50
  clear A50
  by_cases c6 : 0 ≤ a1
  ·rw [if_pos c6] at H
   have c6b0 : decide (0 ≤ a1) = true := decide_eq_true c6
   clear c6
   by_cases c7 : a1 < (t421004.length : Int)
   ·rw [if_pos c7] at H
    have c7b0 : decide (a1 < (t421004.length : Int)) = true := decide_eq_true c7
    clear c7
    obtain ⟨ji8, hji8⟩ : ∃ j_ : Int, (wrap64 (a1 + 1)) = j_ := ⟨_, rfl⟩
    replace H : (if 0 ≤ (ji8) then (if (ji8) < (t421004.length : Int) then (some (((t421004.set (a1 : Int).toNat (rd t421004 (ji8))).set ((ji8) : Int).toNat (rd t421004 a1)), t421007, 0)) else (none)) else (none)) = some (r1, r2, r3) := by first | (rw [hji8] at H; exact H) | (simp only [hji8] at H ⊢; exact H)
    (try rw [hji8] at A3)
    (try rw [hji8] at A5)
    have hji8w : (IntKind.i64.wrap (a1 + 1)) = ji8 := (i64_w _).trans hji8
    by_cases c9 : 0 ≤ (ji8)
    ·rw [if_pos c9] at H
     have c9b0 : decide (0 ≤ (ji8)) = true := decide_eq_true c9
     clear c9
     by_cases c10 : (ji8) < (t421004.length : Int)
     ·rw [if_pos c10] at H
      have c10b0 : decide ((ji8) < (t421004.length : Int)) = true := decide_eq_true c10
      clear c10
      obtain ⟨y421013, hy421013⟩ : ∃ y_ : List Int, y_ = (t421004.set (a1 : Int).toNat (rd t421004 (ji8))) := ⟨_, rfl⟩
      replace H : (some ((y421013.set ((ji8) : Int).toNat (rd t421004 a1)), t421007, 0)) = some (r1, r2, r3) := by first | (rw [hy421013]; with_reducible exact H) | (have H2_ := (Option.bind_some _ _).symm.trans H; rw [hy421013]; with_reducible exact H2_) | (have H2_ := (Option.bind_some _ _).symm.trans H; with_reducible exact H2_) | with_reducible exact H | (rw [hy421013]; exact H) | exact H
      have Ny421013 := Aside0.mk hy421013
      clear hy421013
      obtain ⟨y421014, hy421014⟩ : ∃ y_ : List Int, y_ = (y421013.set ((ji8) : Int).toNat (rd t421004 a1)) := ⟨_, rfl⟩
      replace H : (some (y421014, t421007, 0)) = some (r1, r2, r3) := by first | (rw [hy421014]; with_reducible exact H) | (have H2_ := (Option.bind_some _ _).symm.trans H; rw [hy421014]; with_reducible exact H2_) | (have H2_ := (Option.bind_some _ _).symm.trans H; with_reducible exact H2_) | with_reducible exact H | (rw [hy421014]; exact H) | exact H
      have Ny421014 := Aside0.mk hy421014
      clear hy421014
      simp only [Option.some.injEq, Prod.mk.injEq] at H
      obtain ⟨rfl, rfl, rfl⟩ := H
      go_enter Try.func42, Try.ntmps42
      try go_wp2_with (first | ((with_reducible refine gate_dst (N := 2) rfl ?_); refine box_event ?hg (N := 2) ?hd (cs := #[.slice A0_0 l0_0.length c0_0, .slice A0_1 l0_1.length c0_1]) (t := 28) ?hr ?_; (case hd => rfl); (case hg => rfl); (case hr => first | (go_simp; done) | (go_simp; rfl)); intro gb421001 hg w13 hbox hb; have n0_ := Aside0.mk (below_step (by repeat (first | (with_reducible first | exact HB.out | apply below_alloc | apply pw_below_drewN | apply below_drew1) | exact HB.out)) hb); have n1_ := Aside0.mk (hbox); have n2_ := Aside0.mk ((by rw [hg]; exact (below_size (by repeat (first | (with_reducible first | exact HB.out | apply below_alloc | apply pw_below_drewN | apply below_drew1) | exact HB.out))) : w.heap.size ≤ gb421001)); have n3_ := Aside0.mk ((by rw [hg]; exact (below_size (by repeat (first | (with_reducible first | exact HB.out | apply below_alloc | apply pw_below_drewN | apply below_drew1) | exact HB.out))) : w.heap.size ≤ gb421001)); clear HB; have HB := n0_; have BK421001 := n1_; have GW421001 := n2_; have GE421001 := n3_; clear n0_ n1_ n2_ n3_; clear hb hbox hg) | ((with_reducible refine gate_dst (N := 4) rfl ?_); refine box_event ?hg (N := 4) ?hd (cs := #[.slice none 0 0, .slice none 0 0]) (t := 28) ?hr ?_; (case hd => rfl); (case hg => rfl); (case hr => first | (go_simp; done) | (go_simp; rfl)); intro gb421002 hg w14 hbox hb; have n0_ := Aside0.mk (blk_below (g := gb421001) (o := .cells #[.slice A0_0 l0_0.length c0_0, .slice A0_1 l0_1.length c0_1] 28 (0, 0)) (by (with_reducible repeat (first | refine blk_drewN ?_ _ | refine blk_drew ?_ | refine blk_alloc ?_ _)); exact BK421001.out) hb); have n1_ := Aside0.mk (below_step (by repeat (first | (with_reducible first | exact HB.out | apply below_alloc | apply pw_below_drewN | apply below_drew1 | refine below_set ?_ GE421001.out) | exact HB.out)) hb); have n2_ := Aside0.mk (hbox); have n3_ := Aside0.mk ((by rw [hg]; exact (below_size (by repeat (first | (with_reducible first | exact HB.out | apply below_alloc | apply pw_below_drewN | apply below_drew1 | refine below_set ?_ GE421001.out) | exact HB.out))) : w.heap.size ≤ gb421002)); have n4_ := Aside0.mk ((by rw [hg]; exact (below_size (by repeat (first | (with_reducible first | exact HB.out | apply below_alloc | apply pw_below_drewN | apply below_drew1 | refine below_set ?_ GE421001.out) | exact HB.out))) : w.heap.size ≤ gb421002)); have n5_ := Aside0.mk ((by rw [hg]; exact Nat.ne_of_lt (blk_lt (g := gb421001) (o := .cells #[.slice A0_0 l0_0.length c0_0, .slice A0_1 l0_1.length c0_1] 28 (0, 0)) (by (with_reducible repeat (first | refine blk_drewN ?_ _ | refine blk_drew ?_ | refine blk_alloc ?_ _)); exact BK421001.out)) : gb421001 ≠ gb421002)); have n6_ := Aside0.mk ((by rw [hg]; exact Nat.ne_of_gt (blk_lt (g := gb421001) (o := .cells #[.slice A0_0 l0_0.length c0_0, .slice A0_1 l0_1.length c0_1] 28 (0, 0)) (by (with_reducible repeat (first | refine blk_drewN ?_ _ | refine blk_drew ?_ | refine blk_alloc ?_ _)); exact BK421001.out)) : gb421002 ≠ gb421001)); clear BK421001; clear HB; have BK421001 := n0_; have HB := n1_; have BK421002 := n2_; have GW421002 := n3_; have GE421002 := n4_; have NB421001_421002 := n5_; have NB421002_421001 := n6_; clear n0_ n1_ n2_ n3_ n4_ n5_ n6_; clear hb hbox hg; have hnb15 := NB421001_421002.out; have hnc15 := NB421002_421001.out; have hcz16_0 : w14.cell? ⟨gb421001, 0, none⟩ = some (.slice A0_0 l0_0.length c0_0) := (blk_cell BK421001.out 0).trans rfl; have hcz16_1 : w14.cell? ⟨gb421001, 1, none⟩ = some (.slice A0_1 l0_1.length c0_1) := (blk_cell BK421001.out 1).trans rfl; have hfz16_0 := blk_frozen BK421001.out 0; have hfz16_1 := blk_frozen BK421001.out 1) | ((with_reducible refine gate_callee (f := 122) rfl ?_); refine goesL_ (some 11) rfl rfl Try.func122 (by kernel_rfl) rfl #[.agg #[.slice A0_0 l0_0.length c0_0, .slice A0_1 l0_1.length c0_1], .int .i64 a1] rfl (by (try simp only [List.map_toArray, List.map_cons, List.map_nil]); first | done | rfl | (simp only [List.length_drop, List.length_take]; rfl)) ?_; (with_reducible refine (spec_l06Code.calls k _ _ l0_0 _ _ l0_1 a1 t421003 _ ?side1 ?side2 ?side3 ?side4 A3.out).mono ?_); (case side1 => repeat (first | exact (Kd.C_below HR0_0.out HB.out) | (with_reducible refine Kd.C_alloc ?_ _) | (with_reducible refine Kd.C_drewN ?_ _) | (with_reducible refine Kd.C_drew ?_))); (case side2 => exact HC0_0.out); (case side3 => repeat (first | exact (Kd.C_below HR0_1.out HB.out) | (with_reducible refine Kd.C_alloc ?_ _) | (with_reducible refine Kd.C_drewN ?_ _) | (with_reducible refine Kd.C_drew ?_))); (case side4 => exact HC0_1.out); rintro e w17 ⟨rfl, hb⟩; refine ⟨_, rfl, ?_⟩; have n0_ := Aside0.mk (blk_below (g := gb421001) (o := .cells #[.slice A0_0 l0_0.length c0_0, .slice A0_1 l0_1.length c0_1] 28 (0, 0)) (by (with_reducible repeat (first | refine blk_drewN ?_ _ | refine blk_drew ?_ | refine blk_alloc ?_ _)); exact BK421001.out) hb); have n1_ := Aside0.mk (blk_below (g := gb421002) (o := .cells #[.slice none 0 0, .slice none 0 0] 28 (0, 0)) (by (with_reducible repeat (first | refine blk_drewN ?_ _ | refine blk_drew ?_ | refine blk_alloc ?_ _)); exact BK421002.out) hb); have n2_ := Aside0.mk (below_step (by repeat (first | (with_reducible first | exact HB.out | apply below_alloc | apply pw_below_drewN | apply below_drew1 | refine below_set ?_ GE421001.out | refine below_set ?_ GE421002.out) | exact HB.out)) hb); clear BK421001; clear BK421002; clear HB; have BK421001 := n0_; have BK421002 := n1_; have HB := n2_; clear n0_ n1_ n2_; (try clear hb); (try clear hb2); (try clear hk); (try clear hi); have hcz18_0 : w17.cell? ⟨gb421001, 0, none⟩ = some (.slice A0_0 l0_0.length c0_0) := (blk_cell BK421001.out 0).trans rfl; have hcz18_1 : w17.cell? ⟨gb421001, 1, none⟩ = some (.slice A0_1 l0_1.length c0_1) := (blk_cell BK421001.out 1).trans rfl; have hfz18_0 := blk_frozen BK421001.out 0; have hfz18_1 := blk_frozen BK421001.out 1) | ((with_reducible refine gate_callee (f := 110) rfl ?_); refine goesL_ (some 17) rfl rfl Try.func110 (by kernel_rfl) rfl #[.agg #[.slice A0_0 l0_0.length c0_0, .slice A0_1 l0_1.length c0_1]] rfl (by (try simp only [List.map_toArray, List.map_cons, List.map_nil]); first | done | rfl | (simp only [List.length_drop, List.length_take]; rfl)) ?_; (with_reducible refine (spec_l06Copy.calls k _ _ l0_0 _ _ l0_1 t421004 t421007 _ ?side1 ?side2 ?side3 ?side4 A5.out).mono ?_); (case side1 => repeat (first | exact (Kd.C_below HR0_0.out HB.out) | (with_reducible refine Kd.C_alloc ?_ _) | (with_reducible refine Kd.C_drewN ?_ _) | (with_reducible refine Kd.C_drew ?_))); (case side2 => exact HC0_0.out); (case side3 => repeat (first | exact (Kd.C_below HR0_1.out HB.out) | (with_reducible refine Kd.C_alloc ?_ _) | (with_reducible refine Kd.C_drewN ?_ _) | (with_reducible refine Kd.C_drew ?_))); (case side4 => exact HC0_1.out); rintro e w19 ⟨v421005, v421008, rfl, ho0, ho1, hb⟩; refine ⟨_, rfl, ?_⟩; have n0_ := Aside0.mk (Kd.R_lower ho0 (below_size (by repeat (first | (with_reducible first | exact HB.out | apply below_alloc | apply pw_below_drewN | apply below_drew1 | refine below_set ?_ GE421001.out | refine below_set ?_ GE421002.out) | exact HB.out)))); have n1_ := Aside0.mk (Kd.S_lower ho1 (below_size (by repeat (first | (with_reducible first | exact HB.out | apply below_alloc | apply pw_below_drewN | apply below_drew1 | refine below_set ?_ GE421001.out | refine below_set ?_ GE421002.out) | exact HB.out)))); have n2_ := Aside0.mk (blk_below (g := gb421001) (o := .cells #[.slice A0_0 l0_0.length c0_0, .slice A0_1 l0_1.length c0_1] 28 (0, 0)) (by (with_reducible repeat (first | refine blk_drewN ?_ _ | refine blk_drew ?_ | refine blk_alloc ?_ _)); exact BK421001.out) hb); have n3_ := Aside0.mk (blk_below (g := gb421002) (o := .cells #[.slice none 0 0, .slice none 0 0] 28 (0, 0)) (by (with_reducible repeat (first | refine blk_drewN ?_ _ | refine blk_drew ?_ | refine blk_alloc ?_ _)); exact BK421002.out) hb); have n4_ := Aside0.mk (below_step (by repeat (first | (with_reducible first | exact HB.out | apply below_alloc | apply pw_below_drewN | apply below_drew1 | refine below_set ?_ GE421001.out | refine below_set ?_ GE421002.out) | exact HB.out)) hb); clear BK421001; clear BK421002; clear HB; have HO421006 := n0_; have HO421009 := n1_; have BK421001 := n2_; have BK421002 := n3_; have HB := n4_; clear n0_ n1_ n2_ n3_ n4_; (try clear hb); (try clear hb2); (try clear hk); (try clear hi); (try clear ho0); (try clear ho1)) | ((with_reducible refine gate_dst (N := 7) rfl ?_); refine box_event ?hg (N := 7) ?hd (cs := #[.slice none 0 0, .slice none 0 0]) (t := 28) ?hr ?_; (case hd => rfl); (case hg => rfl); (case hr => first | (go_simp; done) | (go_simp; rfl)); intro gb421010 hg w20 hbox hb; have n0_ := Aside0.mk (Kd.R_below (by (with_reducible repeat (first | apply Kd.R_alloc | apply Kd.R_drewN | apply Kd.R_drew)); exact HO421006.out) hb); have n1_ := Aside0.mk (Kd.S_below (by (with_reducible repeat (first | apply Kd.S_alloc | apply Kd.S_drewN | apply Kd.S_drew)); exact HO421009.out) hb); have n2_ := Aside0.mk (blk_below (g := gb421001) (o := .cells #[.slice A0_0 l0_0.length c0_0, .slice A0_1 l0_1.length c0_1] 28 (0, 0)) (by (with_reducible repeat (first | refine blk_drewN ?_ _ | refine blk_drew ?_ | refine blk_alloc ?_ _)); exact BK421001.out) hb); have n3_ := Aside0.mk (blk_below (g := gb421002) (o := .cells #[.slice none 0 0, .slice none 0 0] 28 (0, 0)) (by (with_reducible repeat (first | refine blk_drewN ?_ _ | refine blk_drew ?_ | refine blk_alloc ?_ _)); exact BK421002.out) hb); have n4_ := Aside0.mk (below_step (by repeat (first | (with_reducible first | exact HB.out | apply below_alloc | apply pw_below_drewN | apply below_drew1 | refine below_set ?_ GE421001.out | refine below_set ?_ GE421002.out) | exact HB.out)) hb); have n5_ := Aside0.mk (hbox); have n6_ := Aside0.mk ((by rw [hg]; exact (below_size (by repeat (first | (with_reducible first | exact HB.out | apply below_alloc | apply pw_below_drewN | apply below_drew1 | refine below_set ?_ GE421001.out | refine below_set ?_ GE421002.out) | exact HB.out))) : w.heap.size ≤ gb421010)); have n7_ := Aside0.mk ((by rw [hg]; exact (below_size (by repeat (first | (with_reducible first | exact HB.out | apply below_alloc | apply pw_below_drewN | apply below_drew1 | refine below_set ?_ GE421001.out | refine below_set ?_ GE421002.out) | exact HB.out))) : w.heap.size ≤ gb421010)); have n8_ := Aside0.mk ((by rw [hg]; exact Nat.ne_of_lt (blk_lt (g := gb421001) (o := .cells #[.slice A0_0 l0_0.length c0_0, .slice A0_1 l0_1.length c0_1] 28 (0, 0)) (by (with_reducible repeat (first | refine blk_drewN ?_ _ | refine blk_drew ?_ | refine blk_alloc ?_ _)); exact BK421001.out)) : gb421001 ≠ gb421010)); have n9_ := Aside0.mk ((by rw [hg]; exact Nat.ne_of_gt (blk_lt (g := gb421001) (o := .cells #[.slice A0_0 l0_0.length c0_0, .slice A0_1 l0_1.length c0_1] 28 (0, 0)) (by (with_reducible repeat (first | refine blk_drewN ?_ _ | refine blk_drew ?_ | refine blk_alloc ?_ _)); exact BK421001.out)) : gb421010 ≠ gb421001)); have n10_ := Aside0.mk ((by rw [hg]; exact Nat.ne_of_lt (blk_lt (g := gb421002) (o := .cells #[.slice none 0 0, .slice none 0 0] 28 (0, 0)) (by (with_reducible repeat (first | refine blk_drewN ?_ _ | refine blk_drew ?_ | refine blk_alloc ?_ _)); exact BK421002.out)) : gb421002 ≠ gb421010)); have n11_ := Aside0.mk ((by rw [hg]; exact Nat.ne_of_gt (blk_lt (g := gb421002) (o := .cells #[.slice none 0 0, .slice none 0 0] 28 (0, 0)) (by (with_reducible repeat (first | refine blk_drewN ?_ _ | refine blk_drew ?_ | refine blk_alloc ?_ _)); exact BK421002.out)) : gb421010 ≠ gb421002)); clear HO421006; clear HO421009; clear BK421001; clear BK421002; clear HB; have HO421006 := n0_; have HO421009 := n1_; have BK421001 := n2_; have BK421002 := n3_; have HB := n4_; have BK421010 := n5_; have GW421010 := n6_; have GE421010 := n7_; have NB421001_421010 := n8_; have NB421010_421001 := n9_; have NB421002_421010 := n10_; have NB421010_421002 := n11_; clear n0_ n1_ n2_ n3_ n4_ n5_ n6_ n7_ n8_ n9_ n10_ n11_; clear hb hbox hg; obtain ⟨Ao21, co21, eo21⟩ := Kd.R_slice HO421006.out; subst eo21; have hnb22 := NB421010_421001.out; have hnc22 := NB421001_421010.out; have hnb23 := NB421010_421002.out; have hnc23 := NB421002_421010.out; have hcz24_0 : w20.cell? ⟨gb421010, 0, none⟩ = some (.slice none 0 0) := (blk_cell BK421010.out 0).trans rfl; have hcz24_1 : w20.cell? ⟨gb421010, 1, none⟩ = some (.slice none 0 0) := (blk_cell BK421010.out 1).trans rfl; have hfz24_0 := blk_frozen BK421010.out 0; have hfz24_1 := blk_frozen BK421010.out 1; obtain ⟨Ao25, co25, eo25⟩ := Kd.S_slice HO421009.out; subst eo25; have p421011 : 0 ≤ (a1 : Int) := of_decide_eq_true (by first | (with_reducible assumption) | assumption); have q421011 : a1 < (t421004.length : Int) := of_decide_eq_true (by first | (with_reducible assumption) | assumption); obtain ⟨ad421011, e421011, hx421011_0⟩ := Kd.at_int (Kd.R_reads' HO421006.out).2.2 a1 p421011 q421011; cases e421011; have hn421011_0 : ad421011.block ≠ gb421010 := Kd.own_blk (Kd.R_ne HO421006.out BK421010.out (by decide)); have hn421011_1 : ad421011.block ≠ gb421010 := Kd.own_blk (Kd.R_ne HO421006.out BK421010.out (by decide)); replace hx421011_0 := (cell_far (p := ⟨gb421010, 0, none⟩) (by first | (rw [add_block]; exact hn421011_0) | (show (Addr.add _ _).block ≠ _; rw [add_block]; exact hn421011_0) | exact hn421011_0) (.slice (some ad421011) t421004.length co21)).trans hx421011_0; replace hx421011_0 := (cell_far (p := ⟨gb421010, 1, none⟩) (by first | (rw [add_block]; exact hn421011_1) | (show (Addr.add _ _).block ≠ _; rw [add_block]; exact hn421011_1) | exact hn421011_1) (.slice Ao25 t421007.length co25)).trans hx421011_0; clear hn421011_0; clear hn421011_1; replace p421011 := eq_true p421011; replace q421011 := eq_true q421011))
      have n0_ : Aside0 (Kd.R (Kd.int .i64) 2 ((w20.setCell ⟨gb421010, 0, none⟩ (.slice (some ad421011) t421004.length co21)).setCell ⟨gb421010, 1, none⟩ (.slice Ao25 t421007.length co25)) w.heap.size (fun _ => True) (.slice (some ad421011) t421004.length co21) t421004) := ⟨by (with_reducible repeat (first | apply Kd.R_alloc | apply Kd.R_drewN | apply Kd.R_drew)); exact Kd.R_mono (Kd.R_far (p := ⟨gb421010, 1, none⟩) (Kd.R_far (p := ⟨gb421010, 0, none⟩) (Kd.R_types HO421006.out BK421010.out (by decide)) (fun _ hk => hk.2) (.slice (some ad421011) t421004.length co21)) (fun _ hk => hk.2) (.slice Ao25 t421007.length co25)) (fun _ hk => trivial)⟩
      have n1_ : Aside0 (Kd.S (Kd.slice 2 (Kd.int .i64)) 22 ((w20.setCell ⟨gb421010, 0, none⟩ (.slice (some ad421011) t421004.length co21)).setCell ⟨gb421010, 1, none⟩ (.slice Ao25 t421007.length co25)) w.heap.size (fun k_ => some k_ ≠ (.slice (some ad421011) t421004.length co21 : Value).ownBlock) (.slice Ao25 t421007.length co25) t421007) := ⟨by (with_reducible repeat (first | apply Kd.S_alloc | apply Kd.S_drewN | apply Kd.S_drew)); exact Kd.S_mono (Kd.S_far (p := ⟨gb421010, 1, none⟩) (Kd.S_far (p := ⟨gb421010, 0, none⟩) (Kd.S_types HO421009.out BK421010.out (by decide)) (fun _ hk => hk.2) (.slice (some ad421011) t421004.length co21)) (fun _ hk => hk.2) (.slice Ao25 t421007.length co25)) (fun _ hk => hk.1)⟩
      have n2_ : Aside0 (((w20.setCell ⟨gb421010, 0, none⟩ (.slice (some ad421011) t421004.length co21)).setCell ⟨gb421010, 1, none⟩ (.slice Ao25 t421007.length co25)).heap[gb421001]? = some (.cells #[.slice A0_0 l0_0.length c0_0, .slice A0_1 l0_1.length c0_1] 28 (0, 0))) := ⟨by (with_reducible repeat (first | refine blk_drewN ?_ _ | refine blk_drew ?_ | refine blk_alloc ?_ _)); refine blk_far ?_ NB421001_421010.out _; (with_reducible repeat (first | refine blk_drewN ?_ _ | refine blk_drew ?_ | refine blk_alloc ?_ _)); refine blk_far ?_ NB421001_421010.out _; (with_reducible repeat (first | refine blk_drewN ?_ _ | refine blk_drew ?_ | refine blk_alloc ?_ _)); exact BK421001.out⟩
      have n3_ : Aside0 (((w20.setCell ⟨gb421010, 0, none⟩ (.slice (some ad421011) t421004.length co21)).setCell ⟨gb421010, 1, none⟩ (.slice Ao25 t421007.length co25)).heap[gb421002]? = some (.cells #[.slice none 0 0, .slice none 0 0] 28 (0, 0))) := ⟨by (with_reducible repeat (first | refine blk_drewN ?_ _ | refine blk_drew ?_ | refine blk_alloc ?_ _)); refine blk_far ?_ NB421002_421010.out _; (with_reducible repeat (first | refine blk_drewN ?_ _ | refine blk_drew ?_ | refine blk_alloc ?_ _)); refine blk_far ?_ NB421002_421010.out _; (with_reducible repeat (first | refine blk_drewN ?_ _ | refine blk_drew ?_ | refine blk_alloc ?_ _)); exact BK421002.out⟩
      have n4_ : Aside0 (((w20.setCell ⟨gb421010, 0, none⟩ (.slice (some ad421011) t421004.length co21)).setCell ⟨gb421010, 1, none⟩ (.slice Ao25 t421007.length co25)).heap[gb421010]? = some (.cells #[.slice (some ad421011) t421004.length co21, .slice Ao25 t421007.length co25] 28 (0, 0))) := ⟨by (with_reducible repeat (first | refine blk_drewN ?_ _ | refine blk_drew ?_ | refine blk_alloc ?_ _)); refine blk_put (cs := #[.slice (some ad421011) t421004.length co21, .slice none 0 0]) ?_ 1 _ rfl; (with_reducible repeat (first | refine blk_drewN ?_ _ | refine blk_drew ?_ | refine blk_alloc ?_ _)); refine blk_put (cs := #[.slice none 0 0, .slice none 0 0]) ?_ 0 _ rfl; (with_reducible repeat (first | refine blk_drewN ?_ _ | refine blk_drew ?_ | refine blk_alloc ?_ _)); exact BK421010.out⟩
      have n5_ : Aside0 (Below w.heap.size w ((w20.setCell ⟨gb421010, 0, none⟩ (.slice (some ad421011) t421004.length co21)).setCell ⟨gb421010, 1, none⟩ (.slice Ao25 t421007.length co25))) := ⟨by repeat (first | (with_reducible first | exact HB.out | apply below_alloc | apply pw_below_drewN | apply below_drew1 | refine below_set ?_ GE421001.out | refine below_set ?_ GE421002.out | refine below_set ?_ GE421010.out) | exact HB.out)⟩
      (try clear HO421006)
      (try clear HO421009)
      (try clear BK421001)
      (try clear BK421002)
      (try clear BK421010)
      (try clear HB)
      generalize ((w20.setCell ⟨gb421010, 0, none⟩ (.slice (some ad421011) t421004.length co21)).setCell ⟨gb421010, 1, none⟩ (.slice Ao25 t421007.length co25)) = w26 at n0_ n1_ n2_ n3_ n4_ n5_ ⊢
      have HO421006 := n0_
      have HO421009 := n1_
      have BK421001 := n2_
      have BK421002 := n3_
      have BK421010 := n4_
      have HB := n5_
      clear n0_ n1_ n2_ n3_ n4_ n5_
      have n0_ := Aside0.mk (Kd.R_drew HO421006.out)
      have n1_ := Aside0.mk (Kd.S_drew HO421009.out)
      have n2_ := Aside0.mk (blk_drew BK421001.out)
      have n3_ := Aside0.mk (blk_drew BK421002.out)
      have n4_ := Aside0.mk (blk_drew BK421010.out)
      have n5_ := Aside0.mk (below_drew1 HB.out)
      clear HO421006
      clear HO421009
      clear BK421001
      clear BK421002
      clear BK421010
      clear HB
      have HO421006 := n0_
      have HO421009 := n1_
      have BK421001 := n2_
      have BK421002 := n3_
      have BK421010 := n4_
      have HB := n5_
      clear n0_ n1_ n2_ n3_ n4_ n5_
      have p421012 : 0 ≤ ((ji8) : Int) := of_decide_eq_true (by first | (with_reducible assumption) | assumption)
      have q421012 : (ji8) < (t421004.length : Int) := of_decide_eq_true (by first | (with_reducible assumption) | assumption)
      obtain ⟨ad421012, e421012, hx421012_0⟩ := Kd.at_int (Kd.R_reads' HO421006.out).2.2 (ji8) p421012 q421012
      obtain rfl : ad421011 = ad421012 := (by injection e421012)
      replace p421012 := eq_true p421012
      replace q421012 := eq_true q421012
      have p11 : 0 ≤ (a1 : Int) := of_decide_eq_true (by first | (with_reducible assumption) | assumption)
      have q11 : (a1 : Int) < ((t421004.length : Int) : Int) := of_decide_eq_true (by first | (with_reducible assumption) | assumption)
      obtain ⟨go11, co11, eo11, gb11, gl11, cl11, HG11⟩ := Kd.R_form HO421006.out (by omega)
      (first | cases eo11 | (injection eo11 with ea_ en_ ec_; (first | subst ea_ | (injection ea_ with ea_; subst ea_)); subst ec_; clear en_))
      have GB11 := Aside0.mk gb11
      have GG11 := Aside0.mk HG11
      clear gb11 gl11 HG11
      (first | simp only [add_plain] at hx421011_0 | skip)
      (first | simp only [add_plain] at hx421012_0 | skip)
      obtain ⟨hx11_0, hf11_0⟩ := Kd.R_celln 0 HO421006.out (a1 : Int) p11 q11
      replace p11 := eq_true p11
      replace q11 := eq_true q11
      have HP28 := Kd.R_putn HO421006.out (a1 : Int) (rd t421004 (ji8))
      rw [← Ny421013.out] at HP28
      have HQ28 := Aside0.mk HP28
      clear HP28
      refine start_ (n := 11) (S := fun w' => w'.cell? ⟨gb421010, 0, none⟩ = some (.slice (some ⟨go11, 0, none⟩) t421004.length co21) ∧ w'.cell? ⟨gb421010, 1, none⟩ = some (.slice Ao25 t421007.length co25) ∧ w'.cell? ⟨go11, ((ji8)).toNat, none⟩ = some (.int .i64 (rd t421004 (ji8)))) (ds := [10]) #[false, false, false, false, false, false, false, false, false, false, false] (by kernel_rfl) rfl rfl ⟨(blk_cell BK421010.out 0).trans rfl, (blk_cell BK421010.out 1).trans rfl, hx421012_0⟩ (fun hHeld => ?_); refine with_tabW spec_ExchangeLegs.tab6 spec_ExchangeLegs.bits6 (fun HT_ HW_ => ?_)
      generalize w26.drew = w27 at HO421006 HO421009 BK421001 BK421002 BK421010 HB GG11 HQ28 hf11_0 hx11_0 hx421011_0 hx421012_0 hHeld ⊢
      refine pure_ (i := 0) (N := some 23) (v := ?_) (a' := ?_) #[true, false, false, false, false, false, false, false, false, false, false] rfl rfl (any_of HT_.out (by kernel_rfl)) (fun _ _ _ h => h) (Or.inl ⟨by rfl, ?_⟩) ?_ ?_
      rotate_left
      ·intro w'
       go_simp
       with_reducible rfl
      rotate_left
      ·simp only [Act.put, List.setIfInBounds_toArray, List.set_cons_zero, List.set_cons_succ, i64_w, i32_w]
       rfl
      refine pure_ (i := 2) (N := some 25) (v := ?_) (a' := ?_) #[true, false, true, false, false, false, false, false, false, false, false] rfl rfl (any_of HT_.out (by kernel_rfl)) (fun _ _ _ h => h) (Or.inl ⟨by rfl, ?_⟩) ?_ ?_
      rotate_left
      ·intro w'
       go_simp
       with_reducible rfl
      rotate_left
      ·simp only [Act.put, List.setIfInBounds_toArray, List.set_cons_zero, List.set_cons_succ, i64_w, i32_w]
       rfl
      refine pure_ (i := 3) (N := some 26) (v := ?_) (a' := ?_) #[true, false, true, true, false, false, false, false, false, false, false] rfl rfl (any_of HT_.out (by kernel_rfl)) (fun _ _ _ h => h) (Or.inl ⟨by rfl, ?_⟩) ?_ ?_
      rotate_left
      ·intro w'
       go_simp
       with_reducible rfl
      rotate_left
      ·simp only [Act.put, List.setIfInBounds_toArray, List.set_cons_zero, List.set_cons_succ, i64_w, i32_w]
       rfl
      refine pure_ (i := 5) (N := some 28) (v := ?_) (a' := ?_) #[true, false, true, true, false, true, false, false, false, false, false] rfl rfl (any_of HT_.out (by kernel_rfl)) (fun _ _ _ h => h) (Or.inl ⟨by rfl, ?_⟩) ?_ ?_
      rotate_left
      ·intro w'
       go_simp
       with_reducible rfl
      rotate_left
      ·simp only [Act.put, List.setIfInBounds_toArray, List.set_cons_zero, List.set_cons_succ, i64_w, i32_w]
       rfl
      refine pure_ (i := 6) (N := some 29) (v := ?_) (a' := ?_) #[true, false, true, true, false, true, true, false, false, false, false] rfl rfl (any_of HT_.out (by kernel_rfl)) (fun _ _ _ h => h) (Or.inl ⟨by rfl, ?_⟩) ?_ ?_
      rotate_left
      ·intro w'
       go_simp
       with_reducible rfl
      rotate_left
      ·simp only [Act.put, List.setIfInBounds_toArray, List.set_cons_zero, List.set_cons_succ, i64_w, i32_w]
       rfl
      refine take_ (i := 1) (N := some 24) (v := ?_) (a' := ?_) #[true, true, true, true, false, true, true, false, false, false, false] rfl rfl (take_ofW HT_.out HW_.out (by kernel_rfl)) (fun _ _ _ h => h) (Or.inl ⟨by rfl, ?_⟩) hHeld ?_ ?_
      rotate_left
      ·rintro w' ⟨s0, s1, s2⟩
       go_simp
       with_reducible rfl
      rotate_left
      ·simp only [Act.put, List.setIfInBounds_toArray, List.set_cons_zero, List.set_cons_succ, i64_w, i32_w]
       rfl
      refine take_ (i := 4) (N := some 27) (v := ?_) (a' := ?_) #[true, true, true, true, true, true, true, false, false, false, false] rfl rfl (take_ofW HT_.out HW_.out (by kernel_rfl)) (fun _ _ _ h => h) (Or.inl ⟨by rfl, ?_⟩) hHeld ?_ ?_
      rotate_left
      ·rintro w' ⟨s0, s1, s2⟩
       go_simp
       with_reducible rfl
      rotate_left
      ·simp only [Act.put, List.setIfInBounds_toArray, List.set_cons_zero, List.set_cons_succ, i64_w, i32_w]
       rfl
      refine pure_ (i := 7) (N := some 30) (v := ?_) (a' := ?_) #[true, true, true, true, true, true, true, true, false, false, false] rfl rfl (any_of HT_.out (by kernel_rfl)) (fun _ _ _ h => h) (Or.inl ⟨by rfl, ?_⟩) ?_ ?_
      rotate_left
      ·intro w'
       go_simp
       with_reducible rfl
      rotate_left
      ·simp only [Act.put, List.setIfInBounds_toArray, List.set_cons_zero, List.set_cons_succ, i64_w, i32_w]
       rfl
      refine take_ (i := 8) (N := some 31) (v := ?_) (a' := ?_) #[true, true, true, true, true, true, true, true, true, false, false] rfl rfl (take_ofW HT_.out HW_.out (by kernel_rfl)) (fun _ _ _ h => h) (Or.inl ⟨by rfl, ?_⟩) hHeld ?_ ?_
      rotate_left
      ·rintro w' ⟨s0, s1, s2⟩
       go_simp
       with_reducible rfl
      rotate_left
      ·simp only [Act.put, List.setIfInBounds_toArray, List.set_cons_zero, List.set_cons_succ, i64_w, i32_w]
       rfl
      refine pure_ (i := 9) (N := some 32) (v := ?_) (a' := ?_) #[true, true, true, true, true, true, true, true, true, true, false] rfl rfl (any_of HT_.out (by kernel_rfl)) (fun _ _ _ h => h) (Or.inl ⟨by rfl, ?_⟩) ?_ ?_
      rotate_left
      ·intro w'
       go_simp
       with_reducible rfl
      rotate_left
      ·simp only [Act.put, List.setIfInBounds_toArray, List.set_cons_zero, List.set_cons_succ, i64_w, i32_w]
       rfl
      refine last_ (i := 10) (N := none) #[true, true, true, true, true, true, true, true, true, true, true] rfl rfl (one_of HT_.out (by kernel_rfl)) (by decide) (fun K hK => ?_)
      refine skip_ (w1 := ?_) (by rfl) rfl ?_ ?_
      rotate_left
      ·go_simp
       rfl
      refine hK.out _ _ ?_
      clear hK K
      refine done_ (done_of HT_.out (by kernel_rfl)) ?_
      have n0_ : Aside0 (Kd.R (Kd.int .i64) 2 (w27.setCell ⟨go11, (a1 : Int).toNat, none⟩ (.int .i64 (rd t421004 (ji8)))) w.heap.size (fun _ => True) (.slice (some ⟨go11, 0, none⟩) t421004.length co21) y421013) := ⟨by (with_reducible repeat (first | apply Kd.R_alloc | apply Kd.R_drewN | apply Kd.R_drew)); exact HQ28.out⟩
      have n1_ : Aside0 (Kd.S (Kd.slice 2 (Kd.int .i64)) 22 (w27.setCell ⟨go11, (a1 : Int).toNat, none⟩ (.int .i64 (rd t421004 (ji8)))) w.heap.size (fun k_ => some k_ ≠ (.slice (some ⟨go11, 0, none⟩) t421004.length co21 : Value).ownBlock) (.slice Ao25 t421007.length co25) t421007) := ⟨by (with_reducible repeat (first | apply Kd.S_alloc | apply Kd.S_drewN | apply Kd.S_drew)); exact Kd.S_mono (Kd.S_far (p := ⟨go11, (a1 : Int).toNat, none⟩) (Kd.S_mono HO421009.out (fun k_ hk => (⟨hk, fun e_ => hk (by rw [e_]; rfl)⟩ : _ ∧ k_ ≠ go11))) (fun _ hk => hk.2) (.int .i64 (rd t421004 (ji8)))) (fun _ hk => hk.1)⟩
      have n2_ : Aside0 ((w27.setCell ⟨go11, (a1 : Int).toNat, none⟩ (.int .i64 (rd t421004 (ji8)))).heap[gb421001]? = some (.cells #[.slice A0_0 l0_0.length c0_0, .slice A0_1 l0_1.length c0_1] 28 (0, 0))) := ⟨by (with_reducible repeat (first | refine blk_drewN ?_ _ | refine blk_drew ?_ | refine blk_alloc ?_ _)); refine blk_far ?_ (by have h_ := Kd.R_ne HO421006.out BK421001.out (by decide); intro e_; exact h_ (by rw [e_]; rfl)) _; (with_reducible repeat (first | refine blk_drewN ?_ _ | refine blk_drew ?_ | refine blk_alloc ?_ _)); exact BK421001.out⟩
      have n3_ : Aside0 ((w27.setCell ⟨go11, (a1 : Int).toNat, none⟩ (.int .i64 (rd t421004 (ji8)))).heap[gb421002]? = some (.cells #[.slice none 0 0, .slice none 0 0] 28 (0, 0))) := ⟨by (with_reducible repeat (first | refine blk_drewN ?_ _ | refine blk_drew ?_ | refine blk_alloc ?_ _)); refine blk_far ?_ (by have h_ := Kd.R_ne HO421006.out BK421002.out (by decide); intro e_; exact h_ (by rw [e_]; rfl)) _; (with_reducible repeat (first | refine blk_drewN ?_ _ | refine blk_drew ?_ | refine blk_alloc ?_ _)); exact BK421002.out⟩
      have n4_ : Aside0 ((w27.setCell ⟨go11, (a1 : Int).toNat, none⟩ (.int .i64 (rd t421004 (ji8)))).heap[gb421010]? = some (.cells #[.slice (some ⟨go11, 0, none⟩) t421004.length co21, .slice Ao25 t421007.length co25] 28 (0, 0))) := ⟨by (with_reducible repeat (first | refine blk_drewN ?_ _ | refine blk_drew ?_ | refine blk_alloc ?_ _)); refine blk_far ?_ (by have h_ := Kd.R_ne HO421006.out BK421010.out (by decide); intro e_; exact h_ (by rw [e_]; rfl)) _; (with_reducible repeat (first | refine blk_drewN ?_ _ | refine blk_drew ?_ | refine blk_alloc ?_ _)); exact BK421010.out⟩
      have n5_ : Aside0 (Below w.heap.size w (w27.setCell ⟨go11, (a1 : Int).toNat, none⟩ (.int .i64 (rd t421004 (ji8))))) := ⟨by repeat (first | (with_reducible first | exact HB.out | apply below_alloc | apply pw_below_drewN | apply below_drew1 | refine below_set ?_ GB11.out | refine below_set ?_ GE421001.out | refine below_set ?_ GE421002.out | refine below_set ?_ GE421010.out) | exact HB.out)⟩
      (try clear HO421006)
      (try clear HO421009)
      (try clear BK421001)
      (try clear BK421002)
      (try clear BK421010)
      (try clear HB)
      generalize (w27.setCell ⟨go11, (a1 : Int).toNat, none⟩ (.int .i64 (rd t421004 (ji8)))) = w29 at n0_ n1_ n2_ n3_ n4_ n5_ ⊢
      have HO421006 := n0_
      have HO421009 := n1_
      have BK421001 := n2_
      have BK421002 := n3_
      have BK421010 := n4_
      have HB := n5_
      clear n0_ n1_ n2_ n3_ n4_ n5_
      have hcz30_0 : w29.cell? ⟨gb421010, 0, none⟩ = some (.slice (some ⟨go11, 0, none⟩) t421004.length co21) := (blk_cell BK421010.out 0).trans rfl
      have hcz30_1 : w29.cell? ⟨gb421010, 1, none⟩ = some (.slice Ao25 t421007.length co25) := (blk_cell BK421010.out 1).trans rfl
      have hfz30_0 := blk_frozen BK421010.out 0
      have hfz30_1 := blk_frozen BK421010.out 1
      have p12 : 0 ≤ ((ji8) : Int) := of_decide_eq_true (by first | (with_reducible assumption) | assumption)
      have q12 : ((ji8) : Int) < ((t421004.length : Int) : Int) := of_decide_eq_true (by first | (with_reducible assumption) | assumption)
      obtain ⟨hx12_0, hf12_0⟩ := Kd.R_celln 0 HO421006.out ((ji8) : Int) p12 q12
      replace p12 := eq_true p12
      replace q12 := eq_true q12
      obtain ⟨hy31_, hz31_⟩ := Kd.R_celln 0 HO421006.out ((ji8) : Int) (of_decide_eq_true (by first | (with_reducible assumption) | assumption)) (of_decide_eq_true (by first | (with_reducible assumption) | assumption))
      have HP31 := Kd.R_putg HO421006.out ((ji8) : Int) (rd t421004 a1)
      try go_wp2_with (first | ((with_reducible refine gate_store (t := 2) (p := 38) rfl ?_); refine store_event (t := 2) (p := 38) (v := ?vo_w32) (w1 := (w29.setCell ⟨go11, ((ji8) : Int).toNat, none⟩ (.int .i64 (rd t421004 a1)))) ?hg ?ho ?hn ?hr ?_; (case ho => rfl); (case hg => rfl); (case hn => rfl); (case hr => first | (go_simp; done) | (go_simp; rfl)); intro w32 hw; have hg : w29.grownBy w32 (some go11) := (by rw [hw]; exact HP31.2); have hp_ : Kd.R (Kd.int .i64) 2 w32 w.heap.size (fun _ => True) (.slice (some ⟨go11, 0, none⟩) t421004.length co21) y421014 := (by rw [hw, Ny421014.out]; exact HP31.1); clear HP31; have n0_ := Aside0.mk (blk_grown (g := gb421001) (o := .cells #[.slice A0_0 l0_0.length c0_0, .slice A0_1 l0_1.length c0_1] 28 (0, 0)) (by (with_reducible repeat (first | refine blk_drewN ?_ _ | refine blk_drew ?_ | refine blk_alloc ?_ _)); exact BK421001.out) hg (Kd.R_ne HO421006.out BK421001.out (by decide))); have n1_ := Aside0.mk (blk_grown (g := gb421002) (o := .cells #[.slice none 0 0, .slice none 0 0] 28 (0, 0)) (by (with_reducible repeat (first | refine blk_drewN ?_ _ | refine blk_drew ?_ | refine blk_alloc ?_ _)); exact BK421002.out) hg (Kd.R_ne HO421006.out BK421002.out (by decide))); have n2_ := Aside0.mk (hp_); have n3_ := Aside0.mk (Kd.S_after (v := (.slice (some ⟨go11, 0, none⟩) t421004.length co21)) (v1 := (.slice (some ⟨go11, 0, none⟩) t421004.length co21)) (ok := (fun _ => True)) (by (with_reducible repeat (first | apply Kd.S_alloc | apply Kd.S_drewN | apply Kd.S_drew)); exact Kd.S_mono HO421009.out (fun _ hk => ⟨trivial, hk⟩)) hg (.inl rfl)); have n4_ := Aside0.mk (blk_grown (g := gb421010) (o := .cells #[.slice (some ⟨go11, 0, none⟩) t421004.length co21, .slice Ao25 t421007.length co25] 28 (0, 0)) (by (with_reducible repeat (first | refine blk_drewN ?_ _ | refine blk_drew ?_ | refine blk_alloc ?_ _)); exact BK421010.out) hg (Kd.R_ne HO421006.out BK421010.out (by decide))); have n5_ := Aside0.mk ((by rw [hw]; exact below_set (HB.out) GB11.out : Below w.heap.size w w32)); clear BK421001; clear BK421002; clear HO421006; clear HO421009; clear BK421010; clear HB; have BK421001 := n0_; have BK421002 := n1_; have HO421006 := n2_; have HO421009 := n3_; have BK421010 := n4_; have HB := n5_; clear n0_ n1_ n2_ n3_ n4_ n5_; clear hg hw hp_; have hcz33_0 : w32.cell? ⟨gb421010, 0, none⟩ = some (.slice (some ⟨go11, 0, none⟩) t421004.length co21) := (blk_cell BK421010.out 0).trans rfl; have hcz33_1 : w32.cell? ⟨gb421010, 1, none⟩ = some (.slice Ao25 t421007.length co25) := (blk_cell BK421010.out 1).trans rfl; have hfz33_0 := blk_frozen BK421010.out 0; have hfz33_1 := blk_frozen BK421010.out 1; have hcz34_0 : w32.cell? ⟨gb421002, 0, none⟩ = some (.slice none 0 0) := (blk_cell BK421002.out 0).trans rfl; have hcz34_1 : w32.cell? ⟨gb421002, 1, none⟩ = some (.slice none 0 0) := (blk_cell BK421002.out 1).trans rfl; have hfz34_0 := blk_frozen BK421002.out 0; have hfz34_1 := blk_frozen BK421002.out 1))
      refine bodyPost_ret (results_ct rfl _ _ gb421002 28 #[.slice (some ⟨go11, 0, none⟩) t421004.length co21, .slice Ao25 t421007.length co25] (0, 0) _ rfl (by (with_reducible repeat (first | refine blk_drewN ?_ _ | refine blk_drew ?_ | refine blk_alloc ?_ _)); refine blk_put (cs := #[.slice (some ⟨go11, 0, none⟩) t421004.length co21, .slice none 0 0]) ?_ 1 _ rfl; (with_reducible repeat (first | refine blk_drewN ?_ _ | refine blk_drew ?_ | refine blk_alloc ?_ _)); refine blk_put (cs := #[.slice none 0 0, .slice none 0 0]) ?_ 0 _ rfl; (with_reducible repeat (first | refine blk_drewN ?_ _ | refine blk_drew ?_ | refine blk_alloc ?_ _)); exact BK421002.out) Try.underlying28 rfl (by kernel_rfl)) rfl ?_
      exact ⟨_, _, by first | rfl | (simp [errW_none, errW_some] <;> rfl) | (simp only [← hji8]; first | rfl | (simp [errW_none, errW_some] <;> rfl)) | (simp [*, errW_none, errW_some] <;> rfl), by (with_reducible repeat (first | apply Kd.R_alloc | apply Kd.R_drewN | apply Kd.R_drew)); exact Kd.R_mono (Kd.R_far (p := ⟨gb421002, 1, none⟩) (Kd.R_far (p := ⟨gb421002, 0, none⟩) (Kd.R_types HO421006.out BK421002.out (by decide)) (fun _ hk => hk.2) (.slice (some ⟨go11, 0, none⟩) t421004.length co21)) (fun _ hk => hk.2) (.slice Ao25 t421007.length co25)) (fun _ hk => trivial), by (with_reducible repeat (first | apply Kd.S_alloc | apply Kd.S_drewN | apply Kd.S_drew)); exact Kd.S_mono (Kd.S_far (p := ⟨gb421002, 1, none⟩) (Kd.S_far (p := ⟨gb421002, 0, none⟩) (Kd.S_types HO421009.out BK421002.out (by decide)) (fun _ hk => hk.2) (.slice (some ⟨go11, 0, none⟩) t421004.length co21)) (fun _ hk => hk.2) (.slice Ao25 t421007.length co25)) (fun _ hk => hk.1.2), by repeat (first | (with_reducible first | exact HB.out | apply below_alloc | apply pw_below_drewN | apply below_drew1 | refine below_set ?_ GE421001.out | refine below_set ?_ GE421002.out | refine below_set ?_ GE421010.out) | exact HB.out)⟩
     ·rw [if_neg c10] at H
      exact absurd H (by simp)
    ·rw [if_neg c9] at H
     exact absurd H (by simp)
   ·rw [if_neg c7] at H
    exact absurd H (by simp)
  ·rw [if_neg c6] at H
   exact absurd H (by simp)
 ·rw [if_neg c4] at H
  have c4b0 : (t421003 == 0) = false := beq_eq_false_iff_ne.mpr c4
  have c4b1 : (t421003 != 0) = true := bne_iff_ne.mpr c4
  simp only [Option.some.injEq, Prod.mk.injEq] at H
  obtain ⟨rfl, rfl, rfl⟩ := H
  go_enter Try.func42, Try.ntmps42
  go_wp2_with (first | ((with_reducible refine gate_dst (N := 2) rfl ?_); refine box_event ?hg (N := 2) ?hd (cs := #[.slice A0_0 l0_0.length c0_0, .slice A0_1 l0_1.length c0_1]) (t := 28) ?hr ?_; (case hd => rfl); (case hg => rfl); (case hr => first | (go_simp; done) | (go_simp; rfl)); intro gb421001 hg w35 hbox hb; have n0_ := Aside0.mk (below_step (by repeat (first | (with_reducible first | exact HB.out | apply below_alloc | apply pw_below_drewN | apply below_drew1) | exact HB.out)) hb); have n1_ := Aside0.mk (hbox); have n2_ := Aside0.mk ((by rw [hg]; exact (below_size (by repeat (first | (with_reducible first | exact HB.out | apply below_alloc | apply pw_below_drewN | apply below_drew1) | exact HB.out))) : w.heap.size ≤ gb421001)); have n3_ := Aside0.mk ((by rw [hg]; exact (below_size (by repeat (first | (with_reducible first | exact HB.out | apply below_alloc | apply pw_below_drewN | apply below_drew1) | exact HB.out))) : w.heap.size ≤ gb421001)); clear HB; have HB := n0_; have BK421001 := n1_; have GW421001 := n2_; have GE421001 := n3_; clear n0_ n1_ n2_ n3_; clear hb hbox hg) | ((with_reducible refine gate_dst (N := 4) rfl ?_); refine box_event ?hg (N := 4) ?hd (cs := #[.slice none 0 0, .slice none 0 0]) (t := 28) ?hr ?_; (case hd => rfl); (case hg => rfl); (case hr => first | (go_simp; done) | (go_simp; rfl)); intro gb421002 hg w36 hbox hb; have n0_ := Aside0.mk (blk_below (g := gb421001) (o := .cells #[.slice A0_0 l0_0.length c0_0, .slice A0_1 l0_1.length c0_1] 28 (0, 0)) (by (with_reducible repeat (first | refine blk_drewN ?_ _ | refine blk_drew ?_ | refine blk_alloc ?_ _)); exact BK421001.out) hb); have n1_ := Aside0.mk (below_step (by repeat (first | (with_reducible first | exact HB.out | apply below_alloc | apply pw_below_drewN | apply below_drew1 | refine below_set ?_ GE421001.out) | exact HB.out)) hb); have n2_ := Aside0.mk (hbox); have n3_ := Aside0.mk ((by rw [hg]; exact (below_size (by repeat (first | (with_reducible first | exact HB.out | apply below_alloc | apply pw_below_drewN | apply below_drew1 | refine below_set ?_ GE421001.out) | exact HB.out))) : w.heap.size ≤ gb421002)); have n4_ := Aside0.mk ((by rw [hg]; exact (below_size (by repeat (first | (with_reducible first | exact HB.out | apply below_alloc | apply pw_below_drewN | apply below_drew1 | refine below_set ?_ GE421001.out) | exact HB.out))) : w.heap.size ≤ gb421002)); have n5_ := Aside0.mk ((by rw [hg]; exact Nat.ne_of_lt (blk_lt (g := gb421001) (o := .cells #[.slice A0_0 l0_0.length c0_0, .slice A0_1 l0_1.length c0_1] 28 (0, 0)) (by (with_reducible repeat (first | refine blk_drewN ?_ _ | refine blk_drew ?_ | refine blk_alloc ?_ _)); exact BK421001.out)) : gb421001 ≠ gb421002)); have n6_ := Aside0.mk ((by rw [hg]; exact Nat.ne_of_gt (blk_lt (g := gb421001) (o := .cells #[.slice A0_0 l0_0.length c0_0, .slice A0_1 l0_1.length c0_1] 28 (0, 0)) (by (with_reducible repeat (first | refine blk_drewN ?_ _ | refine blk_drew ?_ | refine blk_alloc ?_ _)); exact BK421001.out)) : gb421002 ≠ gb421001)); clear BK421001; clear HB; have BK421001 := n0_; have HB := n1_; have BK421002 := n2_; have GW421002 := n3_; have GE421002 := n4_; have NB421001_421002 := n5_; have NB421002_421001 := n6_; clear n0_ n1_ n2_ n3_ n4_ n5_ n6_; clear hb hbox hg; have hnb37 := NB421001_421002.out; have hnc37 := NB421002_421001.out; have hcz38_0 : w36.cell? ⟨gb421001, 0, none⟩ = some (.slice A0_0 l0_0.length c0_0) := (blk_cell BK421001.out 0).trans rfl; have hcz38_1 : w36.cell? ⟨gb421001, 1, none⟩ = some (.slice A0_1 l0_1.length c0_1) := (blk_cell BK421001.out 1).trans rfl; have hfz38_0 := blk_frozen BK421001.out 0; have hfz38_1 := blk_frozen BK421001.out 1) | ((with_reducible refine gate_callee (f := 122) rfl ?_); refine goesL_ (some 11) rfl rfl Try.func122 (by kernel_rfl) rfl #[.agg #[.slice A0_0 l0_0.length c0_0, .slice A0_1 l0_1.length c0_1], .int .i64 a1] rfl (by (try simp only [List.map_toArray, List.map_cons, List.map_nil]); first | done | rfl | (simp only [List.length_drop, List.length_take]; rfl)) ?_; (with_reducible refine (spec_l06Code.calls k _ _ l0_0 _ _ l0_1 a1 t421003 _ ?side1 ?side2 ?side3 ?side4 A3.out).mono ?_); (case side1 => repeat (first | exact (Kd.C_below HR0_0.out HB.out) | (with_reducible refine Kd.C_alloc ?_ _) | (with_reducible refine Kd.C_drewN ?_ _) | (with_reducible refine Kd.C_drew ?_))); (case side2 => exact HC0_0.out); (case side3 => repeat (first | exact (Kd.C_below HR0_1.out HB.out) | (with_reducible refine Kd.C_alloc ?_ _) | (with_reducible refine Kd.C_drewN ?_ _) | (with_reducible refine Kd.C_drew ?_))); (case side4 => exact HC0_1.out); rintro e w39 ⟨rfl, hb⟩; refine ⟨_, rfl, ?_⟩; have n0_ := Aside0.mk (blk_below (g := gb421001) (o := .cells #[.slice A0_0 l0_0.length c0_0, .slice A0_1 l0_1.length c0_1] 28 (0, 0)) (by (with_reducible repeat (first | refine blk_drewN ?_ _ | refine blk_drew ?_ | refine blk_alloc ?_ _)); exact BK421001.out) hb); have n1_ := Aside0.mk (blk_below (g := gb421002) (o := .cells #[.slice none 0 0, .slice none 0 0] 28 (0, 0)) (by (with_reducible repeat (first | refine blk_drewN ?_ _ | refine blk_drew ?_ | refine blk_alloc ?_ _)); exact BK421002.out) hb); have n2_ := Aside0.mk (below_step (by repeat (first | (with_reducible first | exact HB.out | apply below_alloc | apply pw_below_drewN | apply below_drew1 | refine below_set ?_ GE421001.out | refine below_set ?_ GE421002.out) | exact HB.out)) hb); clear BK421001; clear BK421002; clear HB; have BK421001 := n0_; have BK421002 := n1_; have HB := n2_; clear n0_ n1_ n2_; (try clear hb); (try clear hb2); (try clear hk); (try clear hi); have hcz40_0 : w39.cell? ⟨gb421002, 0, none⟩ = some (.slice none 0 0) := (blk_cell BK421002.out 0).trans rfl; have hcz40_1 : w39.cell? ⟨gb421002, 1, none⟩ = some (.slice none 0 0) := (blk_cell BK421002.out 1).trans rfl; have hfz40_0 := blk_frozen BK421002.out 0; have hfz40_1 := blk_frozen BK421002.out 1))
  refine bodyPost_ret (results_ct rfl _ _ gb421002 28 #[.slice none 0 0, .slice none 0 0] (0, 0) _ rfl (by (with_reducible repeat (first | refine blk_drewN ?_ _ | refine blk_drew ?_ | refine blk_alloc ?_ _)); refine blk_put (cs := #[.slice none 0 0, .slice none 0 0]) ?_ 1 _ rfl; (with_reducible repeat (first | refine blk_drewN ?_ _ | refine blk_drew ?_ | refine blk_alloc ?_ _)); refine blk_put (cs := #[.slice none 0 0, .slice none 0 0]) ?_ 0 _ rfl; (with_reducible repeat (first | refine blk_drewN ?_ _ | refine blk_drew ?_ | refine blk_alloc ?_ _)); exact BK421002.out) Try.underlying28 rfl (by kernel_rfl)) rfl ?_
  exact ⟨_, _, by first | rfl | (simp [errW_none, errW_some] <;> rfl) | (simp [*, errW_none, errW_some] <;> rfl), by first | exact Kd.R_nil _ _ _ _ _ | exact Kd.N_nil _ _ _ _ _ | exact Kd.V_nil _ _ _ _ _ | exact Kd.Q_nil _ _ _ _ _ | exact Kd.S_nil _ _ _ _ _, by first | exact Kd.S_nil _ _ _ _ _ | exact Kd.N_nil _ _ _ _ _ | exact Kd.V_nil _ _ _ _ _ | exact Kd.Q_nil _ _ _ _ _ | exact Kd.R_nil _ _ _ _ _, by repeat (first | (with_reducible first | exact HB.out | apply below_alloc | apply pw_below_drewN | apply below_drew1 | refine below_set ?_ GE421001.out | refine below_set ?_ GE421002.out) | exact HB.out)⟩

end Go.Proofs.Ytnlhhbnoccobmaa.F
