/- The row of the law FnExactIsDesk, out of its plain law and the walk. -/
import Derived.Test.YtmeggliapebkgaaZFnExactIsDesk5
import Derived.WalkSpells
import Derived.BigQuiet
import Derived.Deep.RegionLaw
import Derived.Lib.SmallJoins
import Derived.Deep.Matrix
import Derived.WalkKit
import Derived.ProofKit
import Derived.OpenShut
import Derived.Deep.SlicePairs
import Derived.Test.YtmeggliapebkgaaRows
import Derived.JoinedOf
import Derived.KernelRfl
import Derived.ShutString
import Derived.ChangeOld
import Derived.Below
import Derived.SizedLaws
section
namespace Go.Proofs.Ytmeggliapebkgaa.F
open Go.RowKit Go.Proofs.YtmeggliapebkgaaW.PrintWords Go.Proofs.YtmeggliapebkgaaW.PrintLast Go.Proofs.YtmeggliapebkgaaW.PrintMore
attribute [local go_sem] max2_int min2_int max_two min_two max_three min_three max_four min_four   
set_option linter.unusedVariables false
set_option linter.unusedSimpArgs false
def impl_IsDesk.f (k : Nat) (l0_0 : List Int) (a0_1 : Int) (l0_2 : List (S115)) (l0_3 : List Int) (l0_4 : List (List Int)) : Option (Bool) := (impl_IsWord.f k l0_0).bind fun t221002 => (if t221002 = true then ((impl_IsSum.f k a0_1 l0_2).bind fun t221003 => (if t221003 = true then ((impl_IsWeb.f l0_3 l0_4).bind fun t221004 => (some t221004)) else (some false))) else (some false))
theorem impl_IsDesk.mono : ∀ a0 a1 a2 a3 a4 k, LeO (impl_IsDesk.f k a0 a1 a2 a3 a4) (impl_IsDesk.f (k + 1) a0 a1 a2 a3 a4) := by
 intro a0 a1 a2 a3 a4 k
 unfold impl_IsDesk.f
 repeat' first
   | (with_reducible exact impl_IsSum.mono _ _ _)
   | (with_reducible exact impl_IsWord.mono _ _)
   | (with_reducible exact LeO.refl _)
   | (with_reducible exact LeO.none _)
   | (with_reducible refine LeO.ite ?_ ?_)
   | (with_reducible refine LeO.bind ?_ (fun _ => ?_))
   | exact impl_IsSum.mono _ _ _
   | exact impl_IsWord.mono _ _
   | exact LeO.none _
   | refine LeO.ite ?_ ?_
   | refine LeO.bind ?_ (fun _ => ?_)
set_option maxHeartbeats 8000000 in
set_option maxRecDepth 100000 in
theorem impl_IsDesk.calls (k : Nat) (A0_0 : Option Addr) (c0_0 : Nat) (l0_0 : List Int) (a0_1 : Int) (A0_2 : Option Addr) (c0_2 : Nat) (l0_2 : List (S115)) (A0_3 : Option Addr) (c0_3 : Nat) (l0_3 : List Int) (A0_4 : Option Addr) (c0_4 : Nat) (l0_4 : List (List Int)) (r : Bool) (w : World) (hr0_0 : Kd.C (Kd.int .i64) w A0_0 l0_0.length l0_0) (hc0_0 : l0_0.length ≤ c0_0) (hr0_2 : Kd.C k115 w A0_2 l0_2.length l0_2) (hc0_2 : l0_2.length ≤ c0_2) (hr0_3 : Kd.C (Kd.int .i64) w A0_3 l0_3.length l0_3) (hc0_3 : l0_3.length ≤ c0_3) (hr0_4 : Kd.C (Kd.slice 2 (Kd.int .i64)) w A0_4 l0_4.length l0_4) (hc0_4 : l0_4.length ≤ c0_4) (h : impl_IsDesk.f k l0_0 a0_1 l0_2 l0_3 l0_4 = some r) :
  Calls Try.prog 22 #[.agg #[.slice A0_0 l0_0.length c0_0, .int .i64 a0_1, .slice A0_2 l0_2.length c0_2, .slice A0_3 l0_3.length c0_3, .slice A0_4 l0_4.length c0_4]] w fun e w' => e = .returned (.bool r) ∧ Below w.heap.size w w' := by
 have hu48 := Try.underlying48
 have hu46 := Try.underlying46
 have hu30 := Try.underlying30
 have HR0_0 := Aside0.mk hr0_0
 have HC0_0 := Aside0.mk hc0_0
 clear hr0_0 hc0_0
 have HR0_2 := Aside0.mk hr0_2
 have HC0_2 := Aside0.mk hc0_2
 clear hr0_2 hc0_2
 have HR0_3 := Aside0.mk hr0_3
 have HC0_3 := Aside0.mk hc0_3
 clear hr0_3 hc0_3
 have HR0_4 := Aside0.mk hr0_4
 have HC0_4 := Aside0.mk hc0_4
 clear hr0_4 hc0_4
 have HB := Aside0.mk (Below.refl w.heap.size w)
 have H : ((impl_IsWord.f k l0_0).bind fun t221002 => (if t221002 = true then ((impl_IsSum.f k a0_1 l0_2).bind fun t221003 => (if t221003 = true then ((impl_IsWeb.f l0_3 l0_4).bind fun t221004 => (some t221004)) else (some false))) else (some false))) = some r := h
 clear h
 replace H := Option.bind_eq_some_iff.mp H
 obtain ⟨t221002, A20, H⟩ := H
 replace H : (if t221002 = true then ((impl_IsSum.f k a0_1 l0_2).bind fun t221003 => (if t221003 = true then ((impl_IsWeb.f l0_3 l0_4).bind fun t221004 => (some t221004)) else (some false))) else (some false)) = some r := H
 have A2 := Aside0.mk A20
 clear A20
 by_cases c3 : t221002 = true
 rotate_left
 ·replace c3 := Bool.eq_false_iff.mpr c3
  subst c3
  have H1 : (some false) = some r := by rw [if_neg (show ¬ (false = true) by decide)] at H; exact H
  clear H
  have H := H1
  clear H1
  obtain rfl := Option.some.inj H
  go_enter Try.func22, Try.ntmps22
  go_wp2_with (first | ((with_reducible refine gate_dst (N := 1) rfl ?_); refine box_event ?hg (N := 1) ?hd (cs := #[.slice A0_0 l0_0.length c0_0, .int .i64 a0_1, .slice A0_2 l0_2.length c0_2, .slice A0_3 l0_3.length c0_3, .slice A0_4 l0_4.length c0_4]) (t := 48) ?hr ?_; (case hd => rfl); (case hg => rfl); (case hr => first | (go_simp; done) | (go_simp; rfl)); intro gb221001 hg w19 hbox hb; have n0_ := Aside0.mk (below_step (by repeat (first | (with_reducible first | exact HB.out | apply below_alloc | apply pw_below_drewN | apply below_drew1) | exact HB.out)) hb); have n1_ := Aside0.mk (hbox); have n2_ := Aside0.mk ((by rw [hg]; exact (below_size (by repeat (first | (with_reducible first | exact HB.out | apply below_alloc | apply pw_below_drewN | apply below_drew1) | exact HB.out))) : w.heap.size ≤ gb221001)); have n3_ := Aside0.mk ((by rw [hg]; exact (below_size (by repeat (first | (with_reducible first | exact HB.out | apply below_alloc | apply pw_below_drewN | apply below_drew1) | exact HB.out))) : w.heap.size ≤ gb221001)); clear HB; have HB := n0_; have BK221001 := n1_; have GW221001 := n2_; have GE221001 := n3_; clear n0_ n1_ n2_ n3_; clear hb hbox hg; have hcz20_0 : w19.cell? ⟨gb221001, 0, none⟩ = some (.slice A0_0 l0_0.length c0_0) := (blk_cell BK221001.out 0).trans rfl; have hcz20_1 : w19.cell? ⟨gb221001, 1, none⟩ = some (.int .i64 a0_1) := (blk_cell BK221001.out 1).trans rfl; have hcz20_2 : w19.cell? ⟨gb221001, 2, none⟩ = some (.slice A0_2 l0_2.length c0_2) := (blk_cell BK221001.out 2).trans rfl; have hcz20_3 : w19.cell? ⟨gb221001, 3, none⟩ = some (.slice A0_3 l0_3.length c0_3) := (blk_cell BK221001.out 3).trans rfl; have hcz20_4 : w19.cell? ⟨gb221001, 4, none⟩ = some (.slice A0_4 l0_4.length c0_4) := (blk_cell BK221001.out 4).trans rfl; have hfz20_0 := blk_frozen BK221001.out 0; have hfz20_1 := blk_frozen BK221001.out 1; have hfz20_2 := blk_frozen BK221001.out 2; have hfz20_3 := blk_frozen BK221001.out 3; have hfz20_4 := blk_frozen BK221001.out 4) | ((with_reducible refine gate_callee (f := 58) rfl ?_); refine goesL_ (some 5) rfl rfl Try.func58 (by kernel_rfl) rfl #[.slice A0_0 l0_0.length c0_0] rfl (by (try simp only [List.map_toArray, List.map_cons, List.map_nil]); first | done | rfl | (simp only [List.length_drop, List.length_take]; rfl)) ?_; (with_reducible refine (impl_IsWord.calls k _ _ l0_0 false _ ?side1 ?side2 A2.out).mono ?_); (case side1 => repeat (first | exact (Kd.C_below HR0_0.out HB.out) | (with_reducible refine Kd.C_alloc ?_ _) | (with_reducible refine Kd.C_drewN ?_ _) | (with_reducible refine Kd.C_drew ?_))); (case side2 => exact HC0_0.out); rintro e w21 ⟨rfl, hb⟩; refine ⟨_, rfl, ?_⟩; have n0_ := Aside0.mk (blk_below (g := gb221001) (o := .cells #[.slice A0_0 l0_0.length c0_0, .int .i64 a0_1, .slice A0_2 l0_2.length c0_2, .slice A0_3 l0_3.length c0_3, .slice A0_4 l0_4.length c0_4] 48 (0, 0)) (by (with_reducible repeat (first | refine blk_drewN ?_ _ | refine blk_drew ?_ | refine blk_alloc ?_ _)); exact BK221001.out) hb); have n1_ := Aside0.mk (below_step (by repeat (first | (with_reducible first | exact HB.out | apply below_alloc | apply pw_below_drewN | apply below_drew1 | refine below_set ?_ GE221001.out) | exact HB.out)) hb); clear BK221001; clear HB; have BK221001 := n0_; have HB := n1_; clear n0_ n1_; (try clear hb); (try clear hb2); (try clear hk); (try clear hi)))
  go_ret
  exact ⟨by first | rfl | (simp [errW_none, errW_some] <;> rfl) | (simp [*, errW_none, errW_some] <;> rfl), by repeat (first | (with_reducible first | exact HB.out | apply below_alloc | apply pw_below_drewN | apply below_drew1 | refine below_set ?_ GE221001.out) | exact HB.out)⟩
 subst c3
 have H1 : ((impl_IsSum.f k a0_1 l0_2).bind fun t221003 => (if t221003 = true then ((impl_IsWeb.f l0_3 l0_4).bind fun t221004 => (some t221004)) else (some false))) = some r := by rw [if_pos rfl] at H; exact H
 clear H
 have H := H1
 clear H1
 replace H := Option.bind_eq_some_iff.mp H
 obtain ⟨t221003, A40, H⟩ := H
 replace H : (if t221003 = true then ((impl_IsWeb.f l0_3 l0_4).bind fun t221004 => (some t221004)) else (some false)) = some r := H
 have A4 := Aside0.mk A40
 clear A40
 by_cases c5 : t221003 = true
 rotate_left
 ·replace c5 := Bool.eq_false_iff.mpr c5
  subst c5
  have H1 : (some false) = some r := by rw [if_neg (show ¬ (false = true) by decide)] at H; exact H
  clear H
  have H := H1
  clear H1
  obtain rfl := Option.some.inj H
  go_enter Try.func22, Try.ntmps22
  go_wp2_with (first | ((with_reducible refine gate_dst (N := 1) rfl ?_); refine box_event ?hg (N := 1) ?hd (cs := #[.slice A0_0 l0_0.length c0_0, .int .i64 a0_1, .slice A0_2 l0_2.length c0_2, .slice A0_3 l0_3.length c0_3, .slice A0_4 l0_4.length c0_4]) (t := 48) ?hr ?_; (case hd => rfl); (case hg => rfl); (case hr => first | (go_simp; done) | (go_simp; rfl)); intro gb221001 hg w14 hbox hb; have n0_ := Aside0.mk (below_step (by repeat (first | (with_reducible first | exact HB.out | apply below_alloc | apply pw_below_drewN | apply below_drew1) | exact HB.out)) hb); have n1_ := Aside0.mk (hbox); have n2_ := Aside0.mk ((by rw [hg]; exact (below_size (by repeat (first | (with_reducible first | exact HB.out | apply below_alloc | apply pw_below_drewN | apply below_drew1) | exact HB.out))) : w.heap.size ≤ gb221001)); have n3_ := Aside0.mk ((by rw [hg]; exact (below_size (by repeat (first | (with_reducible first | exact HB.out | apply below_alloc | apply pw_below_drewN | apply below_drew1) | exact HB.out))) : w.heap.size ≤ gb221001)); clear HB; have HB := n0_; have BK221001 := n1_; have GW221001 := n2_; have GE221001 := n3_; clear n0_ n1_ n2_ n3_; clear hb hbox hg; have hcz15_0 : w14.cell? ⟨gb221001, 0, none⟩ = some (.slice A0_0 l0_0.length c0_0) := (blk_cell BK221001.out 0).trans rfl; have hcz15_1 : w14.cell? ⟨gb221001, 1, none⟩ = some (.int .i64 a0_1) := (blk_cell BK221001.out 1).trans rfl; have hcz15_2 : w14.cell? ⟨gb221001, 2, none⟩ = some (.slice A0_2 l0_2.length c0_2) := (blk_cell BK221001.out 2).trans rfl; have hcz15_3 : w14.cell? ⟨gb221001, 3, none⟩ = some (.slice A0_3 l0_3.length c0_3) := (blk_cell BK221001.out 3).trans rfl; have hcz15_4 : w14.cell? ⟨gb221001, 4, none⟩ = some (.slice A0_4 l0_4.length c0_4) := (blk_cell BK221001.out 4).trans rfl; have hfz15_0 := blk_frozen BK221001.out 0; have hfz15_1 := blk_frozen BK221001.out 1; have hfz15_2 := blk_frozen BK221001.out 2; have hfz15_3 := blk_frozen BK221001.out 3; have hfz15_4 := blk_frozen BK221001.out 4) | ((with_reducible refine gate_callee (f := 58) rfl ?_); refine goesL_ (some 5) rfl rfl Try.func58 (by kernel_rfl) rfl #[.slice A0_0 l0_0.length c0_0] rfl (by (try simp only [List.map_toArray, List.map_cons, List.map_nil]); first | done | rfl | (simp only [List.length_drop, List.length_take]; rfl)) ?_; (with_reducible refine (impl_IsWord.calls k _ _ l0_0 true _ ?side1 ?side2 A2.out).mono ?_); (case side1 => repeat (first | exact (Kd.C_below HR0_0.out HB.out) | (with_reducible refine Kd.C_alloc ?_ _) | (with_reducible refine Kd.C_drewN ?_ _) | (with_reducible refine Kd.C_drew ?_))); (case side2 => exact HC0_0.out); rintro e w16 ⟨rfl, hb⟩; refine ⟨_, rfl, ?_⟩; have n0_ := Aside0.mk (blk_below (g := gb221001) (o := .cells #[.slice A0_0 l0_0.length c0_0, .int .i64 a0_1, .slice A0_2 l0_2.length c0_2, .slice A0_3 l0_3.length c0_3, .slice A0_4 l0_4.length c0_4] 48 (0, 0)) (by (with_reducible repeat (first | refine blk_drewN ?_ _ | refine blk_drew ?_ | refine blk_alloc ?_ _)); exact BK221001.out) hb); have n1_ := Aside0.mk (below_step (by repeat (first | (with_reducible first | exact HB.out | apply below_alloc | apply pw_below_drewN | apply below_drew1 | refine below_set ?_ GE221001.out) | exact HB.out)) hb); clear BK221001; clear HB; have BK221001 := n0_; have HB := n1_; clear n0_ n1_; (try clear hb); (try clear hb2); (try clear hk); (try clear hi); have hcz17_0 : w16.cell? ⟨gb221001, 0, none⟩ = some (.slice A0_0 l0_0.length c0_0) := (blk_cell BK221001.out 0).trans rfl; have hcz17_1 : w16.cell? ⟨gb221001, 1, none⟩ = some (.int .i64 a0_1) := (blk_cell BK221001.out 1).trans rfl; have hcz17_2 : w16.cell? ⟨gb221001, 2, none⟩ = some (.slice A0_2 l0_2.length c0_2) := (blk_cell BK221001.out 2).trans rfl; have hcz17_3 : w16.cell? ⟨gb221001, 3, none⟩ = some (.slice A0_3 l0_3.length c0_3) := (blk_cell BK221001.out 3).trans rfl; have hcz17_4 : w16.cell? ⟨gb221001, 4, none⟩ = some (.slice A0_4 l0_4.length c0_4) := (blk_cell BK221001.out 4).trans rfl; have hfz17_0 := blk_frozen BK221001.out 0; have hfz17_1 := blk_frozen BK221001.out 1; have hfz17_2 := blk_frozen BK221001.out 2; have hfz17_3 := blk_frozen BK221001.out 3; have hfz17_4 := blk_frozen BK221001.out 4) | (go_at_call 59; (with_reducible refine (impl_IsSum.calls k a0_1 _ _ l0_2 false _ ?side1 ?side2 A4.out).mono ?_); (case side1 => repeat (first | exact (Kd.C_below HR0_2.out HB.out) | (with_reducible refine Kd.C_alloc ?_ _) | (with_reducible refine Kd.C_drewN ?_ _) | (with_reducible refine Kd.C_drew ?_))); (case side2 => exact HC0_2.out); rintro e w18 ⟨rfl, hb⟩; have n0_ := Aside0.mk (blk_below (g := gb221001) (o := .cells #[.slice A0_0 l0_0.length c0_0, .int .i64 a0_1, .slice A0_2 l0_2.length c0_2, .slice A0_3 l0_3.length c0_3, .slice A0_4 l0_4.length c0_4] 48 (0, 0)) (by (with_reducible repeat (first | refine blk_drewN ?_ _ | refine blk_drew ?_ | refine blk_alloc ?_ _)); exact BK221001.out) hb); have n1_ := Aside0.mk (below_step (by repeat (first | (with_reducible first | exact HB.out | apply below_alloc | apply pw_below_drewN | apply below_drew1 | refine below_set ?_ GE221001.out) | exact HB.out)) hb); clear BK221001; clear HB; have BK221001 := n0_; have HB := n1_; clear n0_ n1_; (try clear hb); (try clear hb2); (try clear hk); (try clear hi)))
  go_ret
  exact ⟨by first | rfl | (simp [errW_none, errW_some] <;> rfl) | (simp [*, errW_none, errW_some] <;> rfl), by repeat (first | (with_reducible first | exact HB.out | apply below_alloc | apply pw_below_drewN | apply below_drew1 | refine below_set ?_ GE221001.out) | exact HB.out)⟩
 subst c5
 have H1 : ((impl_IsWeb.f l0_3 l0_4).bind fun t221004 => (some t221004)) = some r := by rw [if_pos rfl] at H; exact H
 clear H
 have H := H1
 clear H1
 replace H := Option.bind_eq_some_iff.mp H
 obtain ⟨t221004, A60, H⟩ := H
 replace H : (some t221004) = some r := H
 have A6 := Aside0.mk A60
 clear A60
 obtain rfl := Option.some.inj H
 go_enter Try.func22, Try.ntmps22
 go_wp2_with (first | ((with_reducible refine gate_dst (N := 1) rfl ?_); refine box_event ?hg (N := 1) ?hd (cs := #[.slice A0_0 l0_0.length c0_0, .int .i64 a0_1, .slice A0_2 l0_2.length c0_2, .slice A0_3 l0_3.length c0_3, .slice A0_4 l0_4.length c0_4]) (t := 48) ?hr ?_; (case hd => rfl); (case hg => rfl); (case hr => first | (go_simp; done) | (go_simp; rfl)); intro gb221001 hg w7 hbox hb; have n0_ := Aside0.mk (below_step (by repeat (first | (with_reducible first | exact HB.out | apply below_alloc | apply pw_below_drewN | apply below_drew1) | exact HB.out)) hb); have n1_ := Aside0.mk (hbox); have n2_ := Aside0.mk ((by rw [hg]; exact (below_size (by repeat (first | (with_reducible first | exact HB.out | apply below_alloc | apply pw_below_drewN | apply below_drew1) | exact HB.out))) : w.heap.size ≤ gb221001)); have n3_ := Aside0.mk ((by rw [hg]; exact (below_size (by repeat (first | (with_reducible first | exact HB.out | apply below_alloc | apply pw_below_drewN | apply below_drew1) | exact HB.out))) : w.heap.size ≤ gb221001)); clear HB; have HB := n0_; have BK221001 := n1_; have GW221001 := n2_; have GE221001 := n3_; clear n0_ n1_ n2_ n3_; clear hb hbox hg; have hcz8_0 : w7.cell? ⟨gb221001, 0, none⟩ = some (.slice A0_0 l0_0.length c0_0) := (blk_cell BK221001.out 0).trans rfl; have hcz8_1 : w7.cell? ⟨gb221001, 1, none⟩ = some (.int .i64 a0_1) := (blk_cell BK221001.out 1).trans rfl; have hcz8_2 : w7.cell? ⟨gb221001, 2, none⟩ = some (.slice A0_2 l0_2.length c0_2) := (blk_cell BK221001.out 2).trans rfl; have hcz8_3 : w7.cell? ⟨gb221001, 3, none⟩ = some (.slice A0_3 l0_3.length c0_3) := (blk_cell BK221001.out 3).trans rfl; have hcz8_4 : w7.cell? ⟨gb221001, 4, none⟩ = some (.slice A0_4 l0_4.length c0_4) := (blk_cell BK221001.out 4).trans rfl; have hfz8_0 := blk_frozen BK221001.out 0; have hfz8_1 := blk_frozen BK221001.out 1; have hfz8_2 := blk_frozen BK221001.out 2; have hfz8_3 := blk_frozen BK221001.out 3; have hfz8_4 := blk_frozen BK221001.out 4) | ((with_reducible refine gate_callee (f := 58) rfl ?_); refine goesL_ (some 5) rfl rfl Try.func58 (by kernel_rfl) rfl #[.slice A0_0 l0_0.length c0_0] rfl (by (try simp only [List.map_toArray, List.map_cons, List.map_nil]); first | done | rfl | (simp only [List.length_drop, List.length_take]; rfl)) ?_; (with_reducible refine (impl_IsWord.calls k _ _ l0_0 true _ ?side1 ?side2 A2.out).mono ?_); (case side1 => repeat (first | exact (Kd.C_below HR0_0.out HB.out) | (with_reducible refine Kd.C_alloc ?_ _) | (with_reducible refine Kd.C_drewN ?_ _) | (with_reducible refine Kd.C_drew ?_))); (case side2 => exact HC0_0.out); rintro e w9 ⟨rfl, hb⟩; refine ⟨_, rfl, ?_⟩; have n0_ := Aside0.mk (blk_below (g := gb221001) (o := .cells #[.slice A0_0 l0_0.length c0_0, .int .i64 a0_1, .slice A0_2 l0_2.length c0_2, .slice A0_3 l0_3.length c0_3, .slice A0_4 l0_4.length c0_4] 48 (0, 0)) (by (with_reducible repeat (first | refine blk_drewN ?_ _ | refine blk_drew ?_ | refine blk_alloc ?_ _)); exact BK221001.out) hb); have n1_ := Aside0.mk (below_step (by repeat (first | (with_reducible first | exact HB.out | apply below_alloc | apply pw_below_drewN | apply below_drew1 | refine below_set ?_ GE221001.out) | exact HB.out)) hb); clear BK221001; clear HB; have BK221001 := n0_; have HB := n1_; clear n0_ n1_; (try clear hb); (try clear hb2); (try clear hk); (try clear hi); have hcz10_0 : w9.cell? ⟨gb221001, 0, none⟩ = some (.slice A0_0 l0_0.length c0_0) := (blk_cell BK221001.out 0).trans rfl; have hcz10_1 : w9.cell? ⟨gb221001, 1, none⟩ = some (.int .i64 a0_1) := (blk_cell BK221001.out 1).trans rfl; have hcz10_2 : w9.cell? ⟨gb221001, 2, none⟩ = some (.slice A0_2 l0_2.length c0_2) := (blk_cell BK221001.out 2).trans rfl; have hcz10_3 : w9.cell? ⟨gb221001, 3, none⟩ = some (.slice A0_3 l0_3.length c0_3) := (blk_cell BK221001.out 3).trans rfl; have hcz10_4 : w9.cell? ⟨gb221001, 4, none⟩ = some (.slice A0_4 l0_4.length c0_4) := (blk_cell BK221001.out 4).trans rfl; have hfz10_0 := blk_frozen BK221001.out 0; have hfz10_1 := blk_frozen BK221001.out 1; have hfz10_2 := blk_frozen BK221001.out 2; have hfz10_3 := blk_frozen BK221001.out 3; have hfz10_4 := blk_frozen BK221001.out 4) | (go_at_call 59; (with_reducible refine (impl_IsSum.calls k a0_1 _ _ l0_2 true _ ?side1 ?side2 A4.out).mono ?_); (case side1 => repeat (first | exact (Kd.C_below HR0_2.out HB.out) | (with_reducible refine Kd.C_alloc ?_ _) | (with_reducible refine Kd.C_drewN ?_ _) | (with_reducible refine Kd.C_drew ?_))); (case side2 => exact HC0_2.out); rintro e w11 ⟨rfl, hb⟩; have n0_ := Aside0.mk (blk_below (g := gb221001) (o := .cells #[.slice A0_0 l0_0.length c0_0, .int .i64 a0_1, .slice A0_2 l0_2.length c0_2, .slice A0_3 l0_3.length c0_3, .slice A0_4 l0_4.length c0_4] 48 (0, 0)) (by (with_reducible repeat (first | refine blk_drewN ?_ _ | refine blk_drew ?_ | refine blk_alloc ?_ _)); exact BK221001.out) hb); have n1_ := Aside0.mk (below_step (by repeat (first | (with_reducible first | exact HB.out | apply below_alloc | apply pw_below_drewN | apply below_drew1 | refine below_set ?_ GE221001.out) | exact HB.out)) hb); clear BK221001; clear HB; have BK221001 := n0_; have HB := n1_; clear n0_ n1_; (try clear hb); (try clear hb2); (try clear hk); (try clear hi); have hcz12_0 : w11.cell? ⟨gb221001, 0, none⟩ = some (.slice A0_0 l0_0.length c0_0) := (blk_cell BK221001.out 0).trans rfl; have hcz12_1 : w11.cell? ⟨gb221001, 1, none⟩ = some (.int .i64 a0_1) := (blk_cell BK221001.out 1).trans rfl; have hcz12_2 : w11.cell? ⟨gb221001, 2, none⟩ = some (.slice A0_2 l0_2.length c0_2) := (blk_cell BK221001.out 2).trans rfl; have hcz12_3 : w11.cell? ⟨gb221001, 3, none⟩ = some (.slice A0_3 l0_3.length c0_3) := (blk_cell BK221001.out 3).trans rfl; have hcz12_4 : w11.cell? ⟨gb221001, 4, none⟩ = some (.slice A0_4 l0_4.length c0_4) := (blk_cell BK221001.out 4).trans rfl; have hfz12_0 := blk_frozen BK221001.out 0; have hfz12_1 := blk_frozen BK221001.out 1; have hfz12_2 := blk_frozen BK221001.out 2; have hfz12_3 := blk_frozen BK221001.out 3; have hfz12_4 := blk_frozen BK221001.out 4) | (go_at_call 49; (with_reducible refine (impl_IsWeb.calls _ _ l0_3 _ _ l0_4 t221004 _ ?side1 ?side2 ?side3 ?side4 A6.out).mono ?_); (case side1 => repeat (first | exact (Kd.C_below HR0_3.out HB.out) | (with_reducible refine Kd.C_alloc ?_ _) | (with_reducible refine Kd.C_drewN ?_ _) | (with_reducible refine Kd.C_drew ?_))); (case side2 => exact HC0_3.out); (case side3 => repeat (first | exact (Kd.C_below HR0_4.out HB.out) | (with_reducible refine Kd.C_alloc ?_ _) | (with_reducible refine Kd.C_drewN ?_ _) | (with_reducible refine Kd.C_drew ?_))); (case side4 => exact HC0_4.out); rintro e w13 ⟨rfl, hb⟩; have n0_ := Aside0.mk (blk_below (g := gb221001) (o := .cells #[.slice A0_0 l0_0.length c0_0, .int .i64 a0_1, .slice A0_2 l0_2.length c0_2, .slice A0_3 l0_3.length c0_3, .slice A0_4 l0_4.length c0_4] 48 (0, 0)) (by (with_reducible repeat (first | refine blk_drewN ?_ _ | refine blk_drew ?_ | refine blk_alloc ?_ _)); exact BK221001.out) hb); have n1_ := Aside0.mk (below_step (by repeat (first | (with_reducible first | exact HB.out | apply below_alloc | apply pw_below_drewN | apply below_drew1 | refine below_set ?_ GE221001.out) | exact HB.out)) hb); clear BK221001; clear HB; have BK221001 := n0_; have HB := n1_; clear n0_ n1_; (try clear hb); (try clear hb2); (try clear hk); (try clear hi)))
 go_ret
 exact ⟨by first | rfl | (simp [errW_none, errW_some] <;> rfl) | (simp [*, errW_none, errW_some] <;> rfl), by repeat (first | (with_reducible first | exact HB.out | apply below_alloc | apply pw_below_drewN | apply below_drew1 | refine below_set ?_ GE221001.out) | exact HB.out)⟩
end Go.Proofs.Ytmeggliapebkgaa.F
end
section
namespace Go.Proofs.Ytmeggliapebkgaa.F
open Go.RowKit Go.Proofs.YtmeggliapebkgaaW.PrintWords Go.Proofs.YtmeggliapebkgaaW.PrintLast Go.Proofs.YtmeggliapebkgaaW.PrintMore
attribute [local go_sem] max2_int min2_int max_two min_two max_three min_three max_four min_four   
set_option linter.unusedVariables false
set_option linter.unusedSimpArgs false
def laws_eqTerm.f (k : Nat) (l0_0 : List Int) (a0_1 : Int) (l1_0 : List Int) (a1_1 : Int) : Option (Bool) := (laws_eqInt64S.f k l0_0 l1_0).bind fun t1431003 => (if t1431003 = true then (if a0_1 = a1_1 then (some true) else (some false)) else (some false))
theorem laws_eqTerm.mono : ∀ a0 a1 a2 a3 k, LeO (laws_eqTerm.f k a0 a1 a2 a3) (laws_eqTerm.f (k + 1) a0 a1 a2 a3) := by
 intro a0 a1 a2 a3 k
 unfold laws_eqTerm.f
 repeat' first
   | (with_reducible exact laws_eqInt64S.mono _ _ _)
   | (with_reducible exact LeO.refl _)
   | (with_reducible exact LeO.none _)
   | (with_reducible refine LeO.ite ?_ ?_)
   | (with_reducible refine LeO.bind ?_ (fun _ => ?_))
   | exact laws_eqInt64S.mono _ _ _
   | exact LeO.none _
   | refine LeO.ite ?_ ?_
   | refine LeO.bind ?_ (fun _ => ?_)
set_option maxHeartbeats 8000000 in
set_option maxRecDepth 100000 in
theorem laws_eqTerm.calls (k : Nat) (A0_0 : Option Addr) (c0_0 : Nat) (l0_0 : List Int) (a0_1 : Int) (A1_0 : Option Addr) (c1_0 : Nat) (l1_0 : List Int) (a1_1 : Int) (r : Bool) (w : World) (hr0_0 : Kd.C (Kd.int .i64) w A0_0 l0_0.length l0_0) (hc0_0 : l0_0.length ≤ c0_0) (hr1_0 : Kd.C (Kd.int .i64) w A1_0 l1_0.length l1_0) (hc1_0 : l1_0.length ≤ c1_0) (h : laws_eqTerm.f k l0_0 a0_1 l1_0 a1_1 = some r) :
  Calls Try.prog 143 #[.agg #[.slice A0_0 l0_0.length c0_0, .int .i64 a0_1], .agg #[.slice A1_0 l1_0.length c1_0, .int .i64 a1_1]] w fun e w' => e = .returned (.bool r) ∧ Below w.heap.size w w' := by
 have hu115 := Try.underlying115
 have HR0_0 := Aside0.mk hr0_0
 have HC0_0 := Aside0.mk hc0_0
 clear hr0_0 hc0_0
 have HR1_0 := Aside0.mk hr1_0
 have HC1_0 := Aside0.mk hc1_0
 clear hr1_0 hc1_0
 have HB := Aside0.mk (Below.refl w.heap.size w)
 have H : ((laws_eqInt64S.f k l0_0 l1_0).bind fun t1431003 => (if t1431003 = true then (if a0_1 = a1_1 then (some true) else (some false)) else (some false))) = some r := h
 clear h
 replace H := Option.bind_eq_some_iff.mp H
 obtain ⟨t1431003, A30, H⟩ := H
 replace H : (if t1431003 = true then (if a0_1 = a1_1 then (some true) else (some false)) else (some false)) = some r := H
 have A3 := Aside0.mk A30
 clear A30
 by_cases c4 : t1431003 = true
 rotate_left
 ·replace c4 := Bool.eq_false_iff.mpr c4
  subst c4
  have H1 : (some false) = some r := by rw [if_neg (show ¬ (false = true) by decide)] at H; exact H
  clear H
  have H := H1
  clear H1
  obtain rfl := Option.some.inj H
  go_enter Try.func143, Try.ntmps143
  go_wp2_with (first | ((with_reducible refine gate_dst (N := 2) rfl ?_); refine box_event ?hg (N := 2) ?hd (cs := #[.slice A0_0 l0_0.length c0_0, .int .i64 a0_1]) (t := 115) ?hr ?_; (case hd => rfl); (case hg => rfl); (case hr => first | (go_simp; done) | (go_simp; rfl)); intro gb1431001 hg w16 hbox hb; have n0_ := Aside0.mk (below_step (by repeat (first | (with_reducible first | exact HB.out | apply below_alloc | apply pw_below_drewN | apply below_drew1) | exact HB.out)) hb); have n1_ := Aside0.mk (hbox); have n2_ := Aside0.mk ((by rw [hg]; exact (below_size (by repeat (first | (with_reducible first | exact HB.out | apply below_alloc | apply pw_below_drewN | apply below_drew1) | exact HB.out))) : w.heap.size ≤ gb1431001)); have n3_ := Aside0.mk ((by rw [hg]; exact (below_size (by repeat (first | (with_reducible first | exact HB.out | apply below_alloc | apply pw_below_drewN | apply below_drew1) | exact HB.out))) : w.heap.size ≤ gb1431001)); clear HB; have HB := n0_; have BK1431001 := n1_; have GW1431001 := n2_; have GE1431001 := n3_; clear n0_ n1_ n2_ n3_; clear hb hbox hg) | ((with_reducible refine gate_dst (N := 3) rfl ?_); refine box_event ?hg (N := 3) ?hd (cs := #[.slice A1_0 l1_0.length c1_0, .int .i64 a1_1]) (t := 115) ?hr ?_; (case hd => rfl); (case hg => rfl); (case hr => first | (go_simp; done) | (go_simp; rfl)); intro gb1431002 hg w17 hbox hb; have n0_ := Aside0.mk (blk_below (g := gb1431001) (o := .cells #[.slice A0_0 l0_0.length c0_0, .int .i64 a0_1] 115 (0, 0)) (by (with_reducible repeat (first | refine blk_drewN ?_ _ | refine blk_drew ?_ | refine blk_alloc ?_ _)); exact BK1431001.out) hb); have n1_ := Aside0.mk (below_step (by repeat (first | (with_reducible first | exact HB.out | apply below_alloc | apply pw_below_drewN | apply below_drew1 | refine below_set ?_ GE1431001.out) | exact HB.out)) hb); have n2_ := Aside0.mk (hbox); have n3_ := Aside0.mk ((by rw [hg]; exact (below_size (by repeat (first | (with_reducible first | exact HB.out | apply below_alloc | apply pw_below_drewN | apply below_drew1 | refine below_set ?_ GE1431001.out) | exact HB.out))) : w.heap.size ≤ gb1431002)); have n4_ := Aside0.mk ((by rw [hg]; exact (below_size (by repeat (first | (with_reducible first | exact HB.out | apply below_alloc | apply pw_below_drewN | apply below_drew1 | refine below_set ?_ GE1431001.out) | exact HB.out))) : w.heap.size ≤ gb1431002)); have n5_ := Aside0.mk ((by rw [hg]; exact Nat.ne_of_lt (blk_lt (g := gb1431001) (o := .cells #[.slice A0_0 l0_0.length c0_0, .int .i64 a0_1] 115 (0, 0)) (by (with_reducible repeat (first | refine blk_drewN ?_ _ | refine blk_drew ?_ | refine blk_alloc ?_ _)); exact BK1431001.out)) : gb1431001 ≠ gb1431002)); have n6_ := Aside0.mk ((by rw [hg]; exact Nat.ne_of_gt (blk_lt (g := gb1431001) (o := .cells #[.slice A0_0 l0_0.length c0_0, .int .i64 a0_1] 115 (0, 0)) (by (with_reducible repeat (first | refine blk_drewN ?_ _ | refine blk_drew ?_ | refine blk_alloc ?_ _)); exact BK1431001.out)) : gb1431002 ≠ gb1431001)); clear BK1431001; clear HB; have BK1431001 := n0_; have HB := n1_; have BK1431002 := n2_; have GW1431002 := n3_; have GE1431002 := n4_; have NB1431001_1431002 := n5_; have NB1431002_1431001 := n6_; clear n0_ n1_ n2_ n3_ n4_ n5_ n6_; clear hb hbox hg; have hnb18 := NB1431001_1431002.out; have hnc18 := NB1431002_1431001.out; have hcz19_0 : w17.cell? ⟨gb1431001, 0, none⟩ = some (.slice A0_0 l0_0.length c0_0) := (blk_cell BK1431001.out 0).trans rfl; have hcz19_1 : w17.cell? ⟨gb1431001, 1, none⟩ = some (.int .i64 a0_1) := (blk_cell BK1431001.out 1).trans rfl; have hfz19_0 := blk_frozen BK1431001.out 0; have hfz19_1 := blk_frozen BK1431001.out 1; have hcz20_0 : w17.cell? ⟨gb1431002, 0, none⟩ = some (.slice A1_0 l1_0.length c1_0) := (blk_cell BK1431002.out 0).trans rfl; have hcz20_1 : w17.cell? ⟨gb1431002, 1, none⟩ = some (.int .i64 a1_1) := (blk_cell BK1431002.out 1).trans rfl; have hfz20_0 := blk_frozen BK1431002.out 0; have hfz20_1 := blk_frozen BK1431002.out 1) | ((with_reducible refine gate_callee (f := 27) rfl ?_); refine goesL_ (some 9) rfl rfl Try.func27 (by kernel_rfl) rfl #[.slice A0_0 l0_0.length c0_0, .slice A1_0 l1_0.length c1_0] rfl (by (try simp only [List.map_toArray, List.map_cons, List.map_nil]); first | done | rfl | (simp only [List.length_drop, List.length_take]; rfl)) ?_; (with_reducible refine (laws_eqInt64S.calls k _ _ l0_0 _ _ l1_0 false _ ?side1 ?side2 ?side3 ?side4 A3.out).mono ?_); (case side1 => repeat (first | exact (Kd.C_below HR0_0.out HB.out) | (with_reducible refine Kd.C_alloc ?_ _) | (with_reducible refine Kd.C_drewN ?_ _) | (with_reducible refine Kd.C_drew ?_))); (case side2 => exact HC0_0.out); (case side3 => repeat (first | exact (Kd.C_below HR1_0.out HB.out) | (with_reducible refine Kd.C_alloc ?_ _) | (with_reducible refine Kd.C_drewN ?_ _) | (with_reducible refine Kd.C_drew ?_))); (case side4 => exact HC1_0.out); rintro e w' ⟨rfl, ⟨nd, rfl⟩⟩; refine ⟨_, rfl, ?_⟩))
  go_ret
  exact ⟨by first | rfl | (simp [errW_none, errW_some] <;> rfl) | (simp [*, errW_none, errW_some] <;> rfl), by repeat (first | (with_reducible first | exact HB.out | apply below_alloc | apply pw_below_drewN | apply below_drew1 | refine below_set ?_ GE1431001.out | refine below_set ?_ GE1431002.out) | exact HB.out)⟩
 subst c4
 have H1 : (if a0_1 = a1_1 then (some true) else (some false)) = some r := by rw [if_pos rfl] at H; exact H
 clear H
 have H := H1
 clear H1
 by_cases c5 : a0_1 = a1_1
 ·rw [if_pos c5] at H
  have c5b0 : (a0_1 == a1_1) = true := beq_iff_eq.mpr c5
  have c5b1 : (a0_1 != a1_1) = false := bne_eq_false_iff_eq.mpr c5
  clear c5
  obtain rfl := Option.some.inj H
  go_enter Try.func143, Try.ntmps143
  go_wp2_with (first | ((with_reducible refine gate_dst (N := 2) rfl ?_); refine box_event ?hg (N := 2) ?hd (cs := #[.slice A0_0 l0_0.length c0_0, .int .i64 a0_1]) (t := 115) ?hr ?_; (case hd => rfl); (case hg => rfl); (case hr => first | (go_simp; done) | (go_simp; rfl)); intro gb1431001 hg w6 hbox hb; have n0_ := Aside0.mk (below_step (by repeat (first | (with_reducible first | exact HB.out | apply below_alloc | apply pw_below_drewN | apply below_drew1) | exact HB.out)) hb); have n1_ := Aside0.mk (hbox); have n2_ := Aside0.mk ((by rw [hg]; exact (below_size (by repeat (first | (with_reducible first | exact HB.out | apply below_alloc | apply pw_below_drewN | apply below_drew1) | exact HB.out))) : w.heap.size ≤ gb1431001)); have n3_ := Aside0.mk ((by rw [hg]; exact (below_size (by repeat (first | (with_reducible first | exact HB.out | apply below_alloc | apply pw_below_drewN | apply below_drew1) | exact HB.out))) : w.heap.size ≤ gb1431001)); clear HB; have HB := n0_; have BK1431001 := n1_; have GW1431001 := n2_; have GE1431001 := n3_; clear n0_ n1_ n2_ n3_; clear hb hbox hg) | ((with_reducible refine gate_dst (N := 3) rfl ?_); refine box_event ?hg (N := 3) ?hd (cs := #[.slice A1_0 l1_0.length c1_0, .int .i64 a1_1]) (t := 115) ?hr ?_; (case hd => rfl); (case hg => rfl); (case hr => first | (go_simp; done) | (go_simp; rfl)); intro gb1431002 hg w7 hbox hb; have n0_ := Aside0.mk (blk_below (g := gb1431001) (o := .cells #[.slice A0_0 l0_0.length c0_0, .int .i64 a0_1] 115 (0, 0)) (by (with_reducible repeat (first | refine blk_drewN ?_ _ | refine blk_drew ?_ | refine blk_alloc ?_ _)); exact BK1431001.out) hb); have n1_ := Aside0.mk (below_step (by repeat (first | (with_reducible first | exact HB.out | apply below_alloc | apply pw_below_drewN | apply below_drew1 | refine below_set ?_ GE1431001.out) | exact HB.out)) hb); have n2_ := Aside0.mk (hbox); have n3_ := Aside0.mk ((by rw [hg]; exact (below_size (by repeat (first | (with_reducible first | exact HB.out | apply below_alloc | apply pw_below_drewN | apply below_drew1 | refine below_set ?_ GE1431001.out) | exact HB.out))) : w.heap.size ≤ gb1431002)); have n4_ := Aside0.mk ((by rw [hg]; exact (below_size (by repeat (first | (with_reducible first | exact HB.out | apply below_alloc | apply pw_below_drewN | apply below_drew1 | refine below_set ?_ GE1431001.out) | exact HB.out))) : w.heap.size ≤ gb1431002)); have n5_ := Aside0.mk ((by rw [hg]; exact Nat.ne_of_lt (blk_lt (g := gb1431001) (o := .cells #[.slice A0_0 l0_0.length c0_0, .int .i64 a0_1] 115 (0, 0)) (by (with_reducible repeat (first | refine blk_drewN ?_ _ | refine blk_drew ?_ | refine blk_alloc ?_ _)); exact BK1431001.out)) : gb1431001 ≠ gb1431002)); have n6_ := Aside0.mk ((by rw [hg]; exact Nat.ne_of_gt (blk_lt (g := gb1431001) (o := .cells #[.slice A0_0 l0_0.length c0_0, .int .i64 a0_1] 115 (0, 0)) (by (with_reducible repeat (first | refine blk_drewN ?_ _ | refine blk_drew ?_ | refine blk_alloc ?_ _)); exact BK1431001.out)) : gb1431002 ≠ gb1431001)); clear BK1431001; clear HB; have BK1431001 := n0_; have HB := n1_; have BK1431002 := n2_; have GW1431002 := n3_; have GE1431002 := n4_; have NB1431001_1431002 := n5_; have NB1431002_1431001 := n6_; clear n0_ n1_ n2_ n3_ n4_ n5_ n6_; clear hb hbox hg; have hnb8 := NB1431001_1431002.out; have hnc8 := NB1431002_1431001.out; have hcz9_0 : w7.cell? ⟨gb1431001, 0, none⟩ = some (.slice A0_0 l0_0.length c0_0) := (blk_cell BK1431001.out 0).trans rfl; have hcz9_1 : w7.cell? ⟨gb1431001, 1, none⟩ = some (.int .i64 a0_1) := (blk_cell BK1431001.out 1).trans rfl; have hfz9_0 := blk_frozen BK1431001.out 0; have hfz9_1 := blk_frozen BK1431001.out 1; have hcz10_0 : w7.cell? ⟨gb1431002, 0, none⟩ = some (.slice A1_0 l1_0.length c1_0) := (blk_cell BK1431002.out 0).trans rfl; have hcz10_1 : w7.cell? ⟨gb1431002, 1, none⟩ = some (.int .i64 a1_1) := (blk_cell BK1431002.out 1).trans rfl; have hfz10_0 := blk_frozen BK1431002.out 0; have hfz10_1 := blk_frozen BK1431002.out 1) | ((with_reducible refine gate_callee (f := 27) rfl ?_); refine goesL_ (some 9) rfl rfl Try.func27 (by kernel_rfl) rfl #[.slice A0_0 l0_0.length c0_0, .slice A1_0 l1_0.length c1_0] rfl (by (try simp only [List.map_toArray, List.map_cons, List.map_nil]); first | done | rfl | (simp only [List.length_drop, List.length_take]; rfl)) ?_; (with_reducible refine (laws_eqInt64S.calls k _ _ l0_0 _ _ l1_0 true _ ?side1 ?side2 ?side3 ?side4 A3.out).mono ?_); (case side1 => repeat (first | exact (Kd.C_below HR0_0.out HB.out) | (with_reducible refine Kd.C_alloc ?_ _) | (with_reducible refine Kd.C_drewN ?_ _) | (with_reducible refine Kd.C_drew ?_))); (case side2 => exact HC0_0.out); (case side3 => repeat (first | exact (Kd.C_below HR1_0.out HB.out) | (with_reducible refine Kd.C_alloc ?_ _) | (with_reducible refine Kd.C_drewN ?_ _) | (with_reducible refine Kd.C_drew ?_))); (case side4 => exact HC1_0.out); rintro e w' ⟨rfl, ⟨nd, rfl⟩⟩; refine ⟨_, rfl, ?_⟩))
  go_ret
  exact ⟨by first | rfl | (simp [errW_none, errW_some] <;> rfl) | (simp [*, errW_none, errW_some] <;> rfl), by repeat (first | (with_reducible first | exact HB.out | apply below_alloc | apply pw_below_drewN | apply below_drew1 | refine below_set ?_ GE1431001.out | refine below_set ?_ GE1431002.out) | exact HB.out)⟩
 rw [if_neg c5] at H
 have c5b0 : (a0_1 == a1_1) = false := beq_eq_false_iff_ne.mpr c5
 have c5b1 : (a0_1 != a1_1) = true := bne_iff_ne.mpr c5
 obtain rfl := Option.some.inj H
 go_enter Try.func143, Try.ntmps143
 go_wp2_with (first | ((with_reducible refine gate_dst (N := 2) rfl ?_); refine box_event ?hg (N := 2) ?hd (cs := #[.slice A0_0 l0_0.length c0_0, .int .i64 a0_1]) (t := 115) ?hr ?_; (case hd => rfl); (case hg => rfl); (case hr => first | (go_simp; done) | (go_simp; rfl)); intro gb1431001 hg w11 hbox hb; have n0_ := Aside0.mk (below_step (by repeat (first | (with_reducible first | exact HB.out | apply below_alloc | apply pw_below_drewN | apply below_drew1) | exact HB.out)) hb); have n1_ := Aside0.mk (hbox); have n2_ := Aside0.mk ((by rw [hg]; exact (below_size (by repeat (first | (with_reducible first | exact HB.out | apply below_alloc | apply pw_below_drewN | apply below_drew1) | exact HB.out))) : w.heap.size ≤ gb1431001)); have n3_ := Aside0.mk ((by rw [hg]; exact (below_size (by repeat (first | (with_reducible first | exact HB.out | apply below_alloc | apply pw_below_drewN | apply below_drew1) | exact HB.out))) : w.heap.size ≤ gb1431001)); clear HB; have HB := n0_; have BK1431001 := n1_; have GW1431001 := n2_; have GE1431001 := n3_; clear n0_ n1_ n2_ n3_; clear hb hbox hg) | ((with_reducible refine gate_dst (N := 3) rfl ?_); refine box_event ?hg (N := 3) ?hd (cs := #[.slice A1_0 l1_0.length c1_0, .int .i64 a1_1]) (t := 115) ?hr ?_; (case hd => rfl); (case hg => rfl); (case hr => first | (go_simp; done) | (go_simp; rfl)); intro gb1431002 hg w12 hbox hb; have n0_ := Aside0.mk (blk_below (g := gb1431001) (o := .cells #[.slice A0_0 l0_0.length c0_0, .int .i64 a0_1] 115 (0, 0)) (by (with_reducible repeat (first | refine blk_drewN ?_ _ | refine blk_drew ?_ | refine blk_alloc ?_ _)); exact BK1431001.out) hb); have n1_ := Aside0.mk (below_step (by repeat (first | (with_reducible first | exact HB.out | apply below_alloc | apply pw_below_drewN | apply below_drew1 | refine below_set ?_ GE1431001.out) | exact HB.out)) hb); have n2_ := Aside0.mk (hbox); have n3_ := Aside0.mk ((by rw [hg]; exact (below_size (by repeat (first | (with_reducible first | exact HB.out | apply below_alloc | apply pw_below_drewN | apply below_drew1 | refine below_set ?_ GE1431001.out) | exact HB.out))) : w.heap.size ≤ gb1431002)); have n4_ := Aside0.mk ((by rw [hg]; exact (below_size (by repeat (first | (with_reducible first | exact HB.out | apply below_alloc | apply pw_below_drewN | apply below_drew1 | refine below_set ?_ GE1431001.out) | exact HB.out))) : w.heap.size ≤ gb1431002)); have n5_ := Aside0.mk ((by rw [hg]; exact Nat.ne_of_lt (blk_lt (g := gb1431001) (o := .cells #[.slice A0_0 l0_0.length c0_0, .int .i64 a0_1] 115 (0, 0)) (by (with_reducible repeat (first | refine blk_drewN ?_ _ | refine blk_drew ?_ | refine blk_alloc ?_ _)); exact BK1431001.out)) : gb1431001 ≠ gb1431002)); have n6_ := Aside0.mk ((by rw [hg]; exact Nat.ne_of_gt (blk_lt (g := gb1431001) (o := .cells #[.slice A0_0 l0_0.length c0_0, .int .i64 a0_1] 115 (0, 0)) (by (with_reducible repeat (first | refine blk_drewN ?_ _ | refine blk_drew ?_ | refine blk_alloc ?_ _)); exact BK1431001.out)) : gb1431002 ≠ gb1431001)); clear BK1431001; clear HB; have BK1431001 := n0_; have HB := n1_; have BK1431002 := n2_; have GW1431002 := n3_; have GE1431002 := n4_; have NB1431001_1431002 := n5_; have NB1431002_1431001 := n6_; clear n0_ n1_ n2_ n3_ n4_ n5_ n6_; clear hb hbox hg; have hnb13 := NB1431001_1431002.out; have hnc13 := NB1431002_1431001.out; have hcz14_0 : w12.cell? ⟨gb1431001, 0, none⟩ = some (.slice A0_0 l0_0.length c0_0) := (blk_cell BK1431001.out 0).trans rfl; have hcz14_1 : w12.cell? ⟨gb1431001, 1, none⟩ = some (.int .i64 a0_1) := (blk_cell BK1431001.out 1).trans rfl; have hfz14_0 := blk_frozen BK1431001.out 0; have hfz14_1 := blk_frozen BK1431001.out 1; have hcz15_0 : w12.cell? ⟨gb1431002, 0, none⟩ = some (.slice A1_0 l1_0.length c1_0) := (blk_cell BK1431002.out 0).trans rfl; have hcz15_1 : w12.cell? ⟨gb1431002, 1, none⟩ = some (.int .i64 a1_1) := (blk_cell BK1431002.out 1).trans rfl; have hfz15_0 := blk_frozen BK1431002.out 0; have hfz15_1 := blk_frozen BK1431002.out 1) | ((with_reducible refine gate_callee (f := 27) rfl ?_); refine goesL_ (some 9) rfl rfl Try.func27 (by kernel_rfl) rfl #[.slice A0_0 l0_0.length c0_0, .slice A1_0 l1_0.length c1_0] rfl (by (try simp only [List.map_toArray, List.map_cons, List.map_nil]); first | done | rfl | (simp only [List.length_drop, List.length_take]; rfl)) ?_; (with_reducible refine (laws_eqInt64S.calls k _ _ l0_0 _ _ l1_0 true _ ?side1 ?side2 ?side3 ?side4 A3.out).mono ?_); (case side1 => repeat (first | exact (Kd.C_below HR0_0.out HB.out) | (with_reducible refine Kd.C_alloc ?_ _) | (with_reducible refine Kd.C_drewN ?_ _) | (with_reducible refine Kd.C_drew ?_))); (case side2 => exact HC0_0.out); (case side3 => repeat (first | exact (Kd.C_below HR1_0.out HB.out) | (with_reducible refine Kd.C_alloc ?_ _) | (with_reducible refine Kd.C_drewN ?_ _) | (with_reducible refine Kd.C_drew ?_))); (case side4 => exact HC1_0.out); rintro e w' ⟨rfl, ⟨nd, rfl⟩⟩; refine ⟨_, rfl, ?_⟩))
 go_ret
 exact ⟨by first | rfl | (simp [errW_none, errW_some] <;> rfl) | (simp [*, errW_none, errW_some] <;> rfl), by repeat (first | (with_reducible first | exact HB.out | apply below_alloc | apply pw_below_drewN | apply below_drew1 | refine below_set ?_ GE1431001.out | refine below_set ?_ GE1431002.out) | exact HB.out)⟩
end Go.Proofs.Ytmeggliapebkgaa.F
end
section
namespace Go.Proofs.Ytmeggliapebkgaa.F
abbrev bqFx79_0 : Array Bool := #[false, false, false, false, false, false, false, false, false, false]
abbrev bqFx79_1 : Array Bool := #[true, false, false, false, false, false, false, false, false, false]
abbrev bqFx79_2 : Array Bool := #[true, true, false, false, false, false, false, false, false, false]
abbrev bqFx79_3 : Array Bool := #[true, true, true, false, false, false, false, false, false, false]
abbrev bqFx79_4 : Array Bool := #[true, true, true, false, true, false, false, false, false, false]
abbrev bqFx79_5 : Array Bool := #[true, true, true, false, true, true, false, false, false, false]
abbrev bqFx79_6 : Array Bool := #[true, true, true, false, true, true, true, false, false, false]
abbrev bqFx79_7 : Array Bool := #[true, true, true, true, true, true, true, false, false, false]
abbrev bqFx79_8 : Array Bool := #[true, true, true, true, true, true, true, true, false, false]
abbrev bqFx79_9 : Array Bool := #[true, true, true, true, true, true, true, true, true, false]
abbrev bqFx79_10 : Array Bool := #[true, true, true, true, true, true, true, true, true, true]
open Go.RowKit Go.Proofs.YtmeggliapebkgaaW.PrintWords Go.Proofs.YtmeggliapebkgaaW.PrintLast Go.Proofs.YtmeggliapebkgaaW.PrintMore
attribute [local go_sem] max2_int min2_int max_two min_two max_three min_three max_four min_four   
set_option linter.unusedVariables false
set_option linter.unusedSimpArgs false
def laws_eqTermS.l0 : Nat → List (S115) → List (S115) → Int → Option (Bool)
 | 0, _, _, _ => none
 | k + 1, x0, x1, x5 => if x5 < (x0.length : Int) then (if 0 ≤ x5 then (if x5 < (x1.length : Int) then ((laws_eqTerm.f k ((rd_T115 x0 x5).f0) ((rd_T115 x0 x5).f1) ((rd_T115 x1 x5).f0) ((rd_T115 x1 x5).f1)).bind fun t791003 => (if t791003 = true then (laws_eqTermS.l0 k x0 x1 (wrap64 (x5 + 1))) else (some false))) else (none)) else (none)) else (some true)
def laws_eqTermS.f (k : Nat) (l0 : List (S115)) (l1 : List (S115)) : Option (Bool) := if (l0.length : Int) = (l1.length : Int) then (laws_eqTermS.l0 k l0 l1 0) else (some false)
theorem laws_eqTermS.mono_l : ∀ k, (∀ y0 y1 y2, LeO (laws_eqTermS.l0 k y0 y1 y2) (laws_eqTermS.l0 (k + 1) y0 y1 y2))
 | 0 => fun _ _ _ r h => by simp [laws_eqTermS.l0] at h
 | k + 1 => by
  have ih0 := laws_eqTermS.mono_l k
  ·intro y0 y1 y2
   unfold laws_eqTermS.l0
   repeat' first
   | (with_reducible exact ih0 _ _ _)
   | (with_reducible exact laws_eqTerm.mono _ _ _ _ _)
   | (with_reducible exact LeO.refl _)
   | (with_reducible exact LeO.none _)
   | (with_reducible refine LeO.ite ?_ ?_)
   | (with_reducible refine LeO.bind ?_ (fun _ => ?_))
   | exact ih0 _ _ _
   | exact laws_eqTerm.mono _ _ _ _ _
   | exact LeO.none _
   | refine LeO.ite ?_ ?_
   | refine LeO.bind ?_ (fun _ => ?_)
theorem laws_eqTermS.mono : ∀ a0 a1 k, LeO (laws_eqTermS.f k a0 a1) (laws_eqTermS.f (k + 1) a0 a1) := by
 intro a0 a1 k
 have ih0 := laws_eqTermS.mono_l k
 unfold laws_eqTermS.f
 repeat' first
   | (with_reducible exact ih0 _ _ _)
   | (with_reducible exact laws_eqTerm.mono _ _ _ _ _)
   | (with_reducible exact LeO.refl _)
   | (with_reducible exact LeO.none _)
   | (with_reducible refine LeO.ite ?_ ?_)
   | (with_reducible refine LeO.bind ?_ (fun _ => ?_))
   | exact ih0 _ _ _
   | exact laws_eqTerm.mono _ _ _ _ _
   | exact LeO.none _
   | refine LeO.ite ?_ ?_
   | refine LeO.bind ?_ (fun _ => ?_)
def laws_eqTermS.T6 : Bool × List (List Nat × List Nat) := (true, [([], []), ([], []), ([0, 1], [0, 1]), ([2], [2]), ([], []), ([], []), ([4, 5], [4, 5]), ([6], [6]), ([3, 7], [3, 7]), ([8], [8])])
def laws_eqTermS.B6 : List Nat := [0, 0, 3, 7, 0, 0, 48, 112, 255, 511]
theorem laws_eqTermS.tab6 : rtab .any (opsOf Try.f79 6) = laws_eqTermS.T6 := by kernel_rfl
theorem laws_eqTermS.bits6 : waitsOk laws_eqTermS.T6.2 laws_eqTermS.B6 = true := by kernel_rfl
set_option maxHeartbeats 8000000 in
set_option maxRecDepth 100000 in
theorem laws_eqTermS.calls (k : Nat) (A0 : Option Addr) (c0 : Nat) (l0 : List (S115)) (A1 : Option Addr) (c1 : Nat) (l1 : List (S115)) (r : Bool) (w : World) (hr0 : Kd.C k115 w A0 l0.length l0) (hc0 : l0.length ≤ c0) (hr1 : Kd.C k115 w A1 l1.length l1) (hc1 : l1.length ≤ c1) (h : laws_eqTermS.f k l0 l1 = some r) :
  Calls Try.prog 79 #[.slice A0 l0.length c0, .slice A1 l1.length c1] w fun e w' => e = .returned (.bool r) ∧ Below w.heap.size w w' := by
 have hu115 := Try.underlying115
 have HR0 := Aside0.mk hr0
 have HC0 := Aside0.mk hc0
 clear hr0 hc0
 have HR1 := Aside0.mk hr1
 have HC1 := Aside0.mk hc1
 clear hr1 hc1
 have HB := Aside0.mk (Below.refl w.heap.size w)
 have H : (if (l0.length : Int) = (l1.length : Int) then (laws_eqTermS.l0 k l0 l1 0) else (some false)) = some r := h
 clear h
 by_cases c3 : (l0.length : Int) = (l1.length : Int)
 rotate_left
 ·rw [if_neg c3] at H
  have c3b0 : ((l0.length : Int) == (l1.length : Int)) = false := beq_eq_false_iff_ne.mpr c3
  have c3b1 : ((l0.length : Int) != (l1.length : Int)) = true := bne_iff_ne.mpr c3
  have c3b2 : (l0.length == l1.length) = false := by first | simpa using c3 | (simp at c3 ⊢; omega)
  obtain rfl := Option.some.inj H
  go_enter Try.func79, Try.ntmps79
  go_wp2
  go_ret
  exact ⟨by first | rfl | (simp [errW_none, errW_some] <;> rfl) | (simp [*, errW_none, errW_some] <;> rfl), by repeat (first | (with_reducible first | exact HB.out | apply below_alloc | apply pw_below_drewN | apply below_drew1) | exact HB.out)⟩
 rw [if_pos c3] at H
 have c3b0 : ((l0.length : Int) == (l1.length : Int)) = true := beq_iff_eq.mpr c3
 have c3b1 : ((l0.length : Int) != (l1.length : Int)) = false := bne_eq_false_iff_eq.mpr c3
 have c3b2 : (l0.length == l1.length) = true := by first | simpa using c3 | (simp at c3 ⊢; omega)
 clear c3
 have H' := Aside0.mk H
 clear H
 go_enter Try.func79, Try.ntmps79
 go_wp2
 go_loopg [5] k (fun kq v5 w' => ∃ (x5_1 : Int), v5 = .int .i64 x5_1 ∧ Aside0 (laws_eqTermS.l0 kq l0 l1 x5_1 = some r) ∧ Aside0 (kq ≤ k) ∧ Aside0 (Below w.heap.size w w'))
 case atStart => exact ⟨(0), (by first | rfl | (simp; done) | (simp [*]; done)), H', ⟨Nat.le_refl _⟩, ⟨by repeat (first | (with_reducible first | exact HB.out | apply below_alloc | apply pw_below_drewN | apply below_drew1) | exact HB.out)⟩⟩
 case round =>
  clear H'
  try clear c1
  try clear p2
  try clear c3
  try clear c3b0
  try clear c3b1
  try clear c3b2
  obtain ⟨x5_1, rfl, HA, HK1, HB⟩ := hrel
  cases gk with
  | zero => exact absurd HA.out (by simp [laws_eqTermS.l0])
  | succ k1 =>
   have H := HA.out
   clear HA
   simp only [laws_eqTermS.l0] at H
   by_cases c4 : x5_1 < (l0.length : Int)
   rotate_left
   ·rw [if_neg c4] at H
    have c4b0 : decide (x5_1 < (l0.length : Int)) = false := decide_eq_false c4
    clear c4
    obtain rfl := Option.some.inj H
    go_wp2
    go_ret
    exact ⟨by first | rfl | (simp [errW_none, errW_some] <;> rfl) | (simp [*, errW_none, errW_some] <;> rfl), by repeat (first | (with_reducible first | exact HB.out | apply below_alloc | apply pw_below_drewN | apply below_drew1) | exact HB.out)⟩
   rw [if_pos c4] at H
   have c4b0 : decide (x5_1 < (l0.length : Int)) = true := decide_eq_true c4
   clear c4
   by_cases c5 : 0 ≤ x5_1
   rotate_left
   ·rw [if_neg c5] at H
    exact absurd H (by simp)
   rw [if_pos c5] at H
   have c5b0 : decide (0 ≤ x5_1) = true := decide_eq_true c5
   clear c5
   by_cases c6 : x5_1 < (l1.length : Int)
   rotate_left
   ·rw [if_neg c6] at H
    exact absurd H (by simp)
   rw [if_pos c6] at H
   have c6b0 : decide (x5_1 < (l1.length : Int)) = true := decide_eq_true c6
   clear c6
   replace H := Option.bind_eq_some_iff.mp H
   obtain ⟨t791003, A70, H⟩ := H
   replace H : (if t791003 = true then (laws_eqTermS.l0 k1 l0 l1 (wrap64 (x5_1 + 1))) else (some false)) = some r := H
   have A7 := Aside0.mk A70
   clear A70
   by_cases c8 : t791003 = true
   rotate_left
   ·replace c8 := Bool.eq_false_iff.mpr c8
    subst c8
    have H1 : (some false) = some r := by rw [if_neg (show ¬ (false = true) by decide)] at H; exact H
    clear H
    have H := H1
    clear H1
    obtain rfl := Option.some.inj H
    try go_wp2
    have n0_ := Aside0.mk (below_drew1 HB.out)
    clear HB
    have HB := n0_
    clear n0_
    have p791001 : 0 ≤ (x5_1 : Int) := of_decide_eq_true (by first | (with_reducible assumption) | assumption)
    have q791001 : x5_1 < (l0.length : Int) := of_decide_eq_true (by first | (with_reducible assumption) | assumption)
    obtain ⟨ad791001, A791001_0, c791001_0, e791001, hx791001_0, hx791001_1, hl791001_0, hi791001_0⟩ := at_T115 HR0.out x5_1 p791001 q791001
    have hw791001_1 := hx791001_1
    have hw791001_0 := hx791001_0
    cases e791001
    replace hx791001_0 := (HB.out.cell (World.block_lt_of_cell? w _ hx791001_0)).trans hx791001_0
    replace hx791001_1 := (HB.out.cell (World.block_lt_of_cell? w _ hx791001_1)).trans hx791001_1
    have HR791001_0 := Aside0.mk hi791001_0
    have HC791001_0 := Aside0.mk hl791001_0
    clear hi791001_0 hl791001_0
    replace p791001 := eq_true p791001
    replace q791001 := eq_true q791001
    have p791002 : 0 ≤ (x5_1 : Int) := of_decide_eq_true (by first | (with_reducible assumption) | assumption)
    have q791002 : x5_1 < (l1.length : Int) := of_decide_eq_true (by first | (with_reducible assumption) | assumption)
    obtain ⟨ad791002, A791002_0, c791002_0, e791002, hx791002_0, hx791002_1, hl791002_0, hi791002_0⟩ := at_T115 HR1.out x5_1 p791002 q791002
    have hw791002_1 := hx791002_1
    have hw791002_0 := hx791002_0
    cases e791002
    replace hx791002_0 := (HB.out.cell (World.block_lt_of_cell? w _ hx791002_0)).trans hx791002_0
    replace hx791002_1 := (HB.out.cell (World.block_lt_of_cell? w _ hx791002_1)).trans hx791002_1
    have HR791002_0 := Aside0.mk hi791002_0
    have HC791002_0 := Aside0.mk hl791002_0
    clear hi791002_0 hl791002_0
    replace p791002 := eq_true p791002
    replace q791002 := eq_true q791002
    refine start_ (n := 10) (S := fun w' => w'.cell? (ad791001.add ((x5_1).toNat * 2)) = some (.slice A791001_0 ((rd_T115 l0 x5_1).f0).length c791001_0) ∧ w'.cell? ⟨(ad791001.add ((x5_1).toNat * 2)).block, (ad791001.add ((x5_1).toNat * 2)).off + 1, none⟩ = some (.int .i64 ((rd_T115 l0 x5_1).f1)) ∧ w'.cell? (ad791002.add ((x5_1).toNat * 2)) = some (.slice A791002_0 ((rd_T115 l1 x5_1).f0).length c791002_0) ∧ w'.cell? ⟨(ad791002.add ((x5_1).toNat * 2)).block, (ad791002.add ((x5_1).toNat * 2)).off + 1, none⟩ = some (.int .i64 ((rd_T115 l1 x5_1).f1))) (ds := []) bqFx79_0 (by kernel_rfl) rfl rfl ⟨((HB.out.cell (World.block_lt_of_cell? w _ hw791001_0)).trans hw791001_0), ((HB.out.cell (World.block_lt_of_cell? w _ hw791001_1)).trans hw791001_1), ((HB.out.cell (World.block_lt_of_cell? w _ hw791002_0)).trans hw791002_0), ((HB.out.cell (World.block_lt_of_cell? w _ hw791002_1)).trans hw791002_1)⟩ (fun hHeld => ?_); refine with_tabW laws_eqTermS.tab6 laws_eqTermS.bits6 (fun HT_ HW_ => ?_)
    generalize wr.drew = w11 at HB HR791001_0 HR791002_0 hx791001_0 hx791001_1 hx791002_0 hx791002_1 hHeld ⊢
    refine pure_ (i := 0) (N := some 17) (v := ?_) (a' := ?_) bqFx79_1 rfl rfl (any_of HT_.out (by kernel_rfl)) (fun _ _ _ h => h) (Or.inl ⟨by rfl, ?_⟩) ?_ ?_
    rotate_left
    ·intro w'
     go_simp
     with_reducible rfl
    rotate_left
    ·simp only [Act.put, List.setIfInBounds_toArray, List.set_cons_zero, List.set_cons_succ, i64_w, i32_w]
     rfl
    refine pure_ (i := 1) (N := some 18) (v := ?_) (a' := ?_) bqFx79_2 rfl rfl (any_of HT_.out (by kernel_rfl)) (fun _ _ _ h => h) (Or.inl ⟨by rfl, ?_⟩) ?_ ?_
    rotate_left
    ·intro w'
     go_simp
     with_reducible rfl
    rotate_left
    ·simp only [Act.put, List.setIfInBounds_toArray, List.set_cons_zero, List.set_cons_succ, i64_w, i32_w]
     rfl
    refine pure_ (i := 2) (N := some 19) (v := ?_) (a' := ?_) bqFx79_3 rfl rfl (any_of HT_.out (by kernel_rfl)) (fun _ _ _ h => h) (Or.inl ⟨by rfl, ?_⟩) ?_ ?_
    rotate_left
    ·intro w'
     go_simp
     with_reducible rfl
    rotate_left
    ·simp only [Act.put, List.setIfInBounds_toArray, List.set_cons_zero, List.set_cons_succ, i64_w, i32_w]
     rfl
    refine pure_ (i := 4) (N := some 21) (v := ?_) (a' := ?_) bqFx79_4 rfl rfl (any_of HT_.out (by kernel_rfl)) (fun _ _ _ h => h) (Or.inl ⟨by rfl, ?_⟩) ?_ ?_
    rotate_left
    ·intro w'
     go_simp
     with_reducible rfl
    rotate_left
    ·simp only [Act.put, List.setIfInBounds_toArray, List.set_cons_zero, List.set_cons_succ, i64_w, i32_w]
     rfl
    refine pure_ (i := 5) (N := some 22) (v := ?_) (a' := ?_) bqFx79_5 rfl rfl (any_of HT_.out (by kernel_rfl)) (fun _ _ _ h => h) (Or.inl ⟨by rfl, ?_⟩) ?_ ?_
    rotate_left
    ·intro w'
     go_simp
     with_reducible rfl
    rotate_left
    ·simp only [Act.put, List.setIfInBounds_toArray, List.set_cons_zero, List.set_cons_succ, i64_w, i32_w]
     rfl
    refine pure_ (i := 6) (N := some 23) (v := ?_) (a' := ?_) bqFx79_6 rfl rfl (any_of HT_.out (by kernel_rfl)) (fun _ _ _ h => h) (Or.inl ⟨by rfl, ?_⟩) ?_ ?_
    rotate_left
    ·intro w'
     go_simp
     with_reducible rfl
    rotate_left
    ·simp only [Act.put, List.setIfInBounds_toArray, List.set_cons_zero, List.set_cons_succ, i64_w, i32_w]
     rfl
    refine take_ (i := 3) (N := some 20) (v := ?_) (a' := ?_) bqFx79_7 rfl rfl (take_ofW HT_.out HW_.out (by kernel_rfl)) (fun _ _ _ h => h) (Or.inl ⟨by rfl, ?_⟩) hHeld ?_ ?_
    rotate_left
    ·rintro w' ⟨s0, s1, s2, s3⟩
     go_simp
     with_reducible rfl
    rotate_left
    ·simp only [Act.put, List.setIfInBounds_toArray, List.set_cons_zero, List.set_cons_succ, i64_w, i32_w]
     rfl
    refine take_ (i := 7) (N := some 24) (v := ?_) (a' := ?_) bqFx79_8 rfl rfl (take_ofW HT_.out HW_.out (by kernel_rfl)) (fun _ _ _ h => h) (Or.inl ⟨by rfl, ?_⟩) hHeld ?_ ?_
    rotate_left
    ·rintro w' ⟨s0, s1, s2, s3⟩
     go_simp
     with_reducible rfl
    rotate_left
    ·simp only [Act.put, List.setIfInBounds_toArray, List.set_cons_zero, List.set_cons_succ, i64_w, i32_w]
     rfl
    refine one_ (i := 8) (N := some 25) bqFx79_9 rfl rfl (one_of HT_.out (by kernel_rfl)) (by decide) (fun K hK => ?_)
    refine goes_ Try.func143 (by kernel_rfl) rfl #[.agg #[.slice A791001_0 ((rd_T115 l0 x5_1).f0).length c791001_0, .int .i64 ((rd_T115 l0 x5_1).f1)], .agg #[.slice A791002_0 ((rd_T115 l1 x5_1).f0).length c791002_0, .int .i64 ((rd_T115 l1 x5_1).f1)]] (by rfl) rfl rfl (by (try simp only [List.map_toArray, List.map_cons, List.map_nil]); first | done | rfl | (simp only [List.length_drop, List.length_take]; rfl)) ?_
    with_reducible refine (laws_eqTerm.calls k1 _ _ ((rd_T115 l0 x5_1).f0) ((rd_T115 l0 x5_1).f1) _ _ ((rd_T115 l1 x5_1).f0) ((rd_T115 l1 x5_1).f1) false _ ?side1 ?side2 ?side3 ?side4 A7.out).mono ?_
    (case side1 => repeat (first | exact (Kd.C_below HR791001_0.out HB.out) | (with_reducible refine Kd.C_alloc ?_ _) | (with_reducible refine Kd.C_drewN ?_ _) | (with_reducible refine Kd.C_drew ?_)))
    (case side2 => exact HC791001_0.out)
    (case side3 => repeat (first | exact (Kd.C_below HR791002_0.out HB.out) | (with_reducible refine Kd.C_alloc ?_ _) | (with_reducible refine Kd.C_drewN ?_ _) | (with_reducible refine Kd.C_drew ?_)))
    (case side4 => exact HC791002_0.out)
    rintro e w12 ⟨rfl, hb⟩
    refine ⟨_, rfl, ?_⟩
    have n0_ := Aside0.mk (below_step (by repeat (first | (with_reducible first | exact HB.out | apply below_alloc | apply pw_below_drewN | apply below_drew1) | exact HB.out)) hb)
    clear HB
    have HB := n0_
    clear n0_
    (try clear hb)
    (try clear hb2)
    (try clear hk)
    (try clear hi)
    refine hK.out _ _ ⟨((HB.out.cell (World.block_lt_of_cell? w _ hw791001_0)).trans hw791001_0), ((HB.out.cell (World.block_lt_of_cell? w _ hw791001_1)).trans hw791001_1), ((HB.out.cell (World.block_lt_of_cell? w _ hw791002_0)).trans hw791002_0), ((HB.out.cell (World.block_lt_of_cell? w _ hw791002_1)).trans hw791002_1)⟩ (fun hHeld => ?_)
    clear hK K
    refine norm_ (a' := ?_) ?_ ?_
    rotate_left
    ·show Act.put _ (some 25) _ = _
     simp only [Act.put, List.setIfInBounds_toArray, List.set_cons_zero, List.set_cons_succ, i64_w, i32_w]
     rfl
    refine pure_ (i := 9) (N := some 26) (v := ?_) (a' := ?_) bqFx79_10 rfl rfl (any_of HT_.out (by kernel_rfl)) (fun _ _ _ h => h) (Or.inl ⟨by rfl, ?_⟩) ?_ ?_
    rotate_left
    ·intro w'
     go_simp
     with_reducible rfl
    rotate_left
    ·simp only [Act.put, List.setIfInBounds_toArray, List.set_cons_zero, List.set_cons_succ, i64_w, i32_w]
     rfl
    refine done_ (done_of HT_.out (by kernel_rfl)) ?_
    try go_wp2
    go_ret
    exact ⟨by first | rfl | (simp [errW_none, errW_some] <;> rfl) | (simp [*, errW_none, errW_some] <;> rfl), by repeat (first | (with_reducible first | exact HB.out | apply below_alloc | apply pw_below_drewN | apply below_drew1) | exact HB.out)⟩
   subst c8
   have H1 : (laws_eqTermS.l0 k1 l0 l1 (wrap64 (x5_1 + 1))) = some r := by rw [if_pos rfl] at H; exact H
   clear H
   have H := H1
   clear H1
   have H' := Aside0.mk H
   clear H
   try go_wp2
   have n0_ := Aside0.mk (below_drew1 HB.out)
   clear HB
   have HB := n0_
   clear n0_
   have p791001 : 0 ≤ (x5_1 : Int) := of_decide_eq_true (by first | (with_reducible assumption) | assumption)
   have q791001 : x5_1 < (l0.length : Int) := of_decide_eq_true (by first | (with_reducible assumption) | assumption)
   obtain ⟨ad791001, A791001_0, c791001_0, e791001, hx791001_0, hx791001_1, hl791001_0, hi791001_0⟩ := at_T115 HR0.out x5_1 p791001 q791001
   have hw791001_1 := hx791001_1
   have hw791001_0 := hx791001_0
   cases e791001
   replace hx791001_0 := (HB.out.cell (World.block_lt_of_cell? w _ hx791001_0)).trans hx791001_0
   replace hx791001_1 := (HB.out.cell (World.block_lt_of_cell? w _ hx791001_1)).trans hx791001_1
   have HR791001_0 := Aside0.mk hi791001_0
   have HC791001_0 := Aside0.mk hl791001_0
   clear hi791001_0 hl791001_0
   replace p791001 := eq_true p791001
   replace q791001 := eq_true q791001
   have p791002 : 0 ≤ (x5_1 : Int) := of_decide_eq_true (by first | (with_reducible assumption) | assumption)
   have q791002 : x5_1 < (l1.length : Int) := of_decide_eq_true (by first | (with_reducible assumption) | assumption)
   obtain ⟨ad791002, A791002_0, c791002_0, e791002, hx791002_0, hx791002_1, hl791002_0, hi791002_0⟩ := at_T115 HR1.out x5_1 p791002 q791002
   have hw791002_1 := hx791002_1
   have hw791002_0 := hx791002_0
   cases e791002
   replace hx791002_0 := (HB.out.cell (World.block_lt_of_cell? w _ hx791002_0)).trans hx791002_0
   replace hx791002_1 := (HB.out.cell (World.block_lt_of_cell? w _ hx791002_1)).trans hx791002_1
   have HR791002_0 := Aside0.mk hi791002_0
   have HC791002_0 := Aside0.mk hl791002_0
   clear hi791002_0 hl791002_0
   replace p791002 := eq_true p791002
   replace q791002 := eq_true q791002
   refine start_ (n := 10) (S := fun w' => w'.cell? (ad791001.add ((x5_1).toNat * 2)) = some (.slice A791001_0 ((rd_T115 l0 x5_1).f0).length c791001_0) ∧ w'.cell? ⟨(ad791001.add ((x5_1).toNat * 2)).block, (ad791001.add ((x5_1).toNat * 2)).off + 1, none⟩ = some (.int .i64 ((rd_T115 l0 x5_1).f1)) ∧ w'.cell? (ad791002.add ((x5_1).toNat * 2)) = some (.slice A791002_0 ((rd_T115 l1 x5_1).f0).length c791002_0) ∧ w'.cell? ⟨(ad791002.add ((x5_1).toNat * 2)).block, (ad791002.add ((x5_1).toNat * 2)).off + 1, none⟩ = some (.int .i64 ((rd_T115 l1 x5_1).f1))) (ds := []) bqFx79_0 (by kernel_rfl) rfl rfl ⟨((HB.out.cell (World.block_lt_of_cell? w _ hw791001_0)).trans hw791001_0), ((HB.out.cell (World.block_lt_of_cell? w _ hw791001_1)).trans hw791001_1), ((HB.out.cell (World.block_lt_of_cell? w _ hw791002_0)).trans hw791002_0), ((HB.out.cell (World.block_lt_of_cell? w _ hw791002_1)).trans hw791002_1)⟩ (fun hHeld => ?_); refine with_tabW laws_eqTermS.tab6 laws_eqTermS.bits6 (fun HT_ HW_ => ?_)
   generalize wr.drew = w9 at HB HR791001_0 HR791002_0 hx791001_0 hx791001_1 hx791002_0 hx791002_1 hHeld ⊢
   refine pure_ (i := 0) (N := some 17) (v := ?_) (a' := ?_) bqFx79_1 rfl rfl (any_of HT_.out (by kernel_rfl)) (fun _ _ _ h => h) (Or.inl ⟨by rfl, ?_⟩) ?_ ?_
   rotate_left
   ·intro w'
    go_simp
    with_reducible rfl
   rotate_left
   ·simp only [Act.put, List.setIfInBounds_toArray, List.set_cons_zero, List.set_cons_succ, i64_w, i32_w]
    rfl
   refine pure_ (i := 1) (N := some 18) (v := ?_) (a' := ?_) bqFx79_2 rfl rfl (any_of HT_.out (by kernel_rfl)) (fun _ _ _ h => h) (Or.inl ⟨by rfl, ?_⟩) ?_ ?_
   rotate_left
   ·intro w'
    go_simp
    with_reducible rfl
   rotate_left
   ·simp only [Act.put, List.setIfInBounds_toArray, List.set_cons_zero, List.set_cons_succ, i64_w, i32_w]
    rfl
   refine pure_ (i := 2) (N := some 19) (v := ?_) (a' := ?_) bqFx79_3 rfl rfl (any_of HT_.out (by kernel_rfl)) (fun _ _ _ h => h) (Or.inl ⟨by rfl, ?_⟩) ?_ ?_
   rotate_left
   ·intro w'
    go_simp
    with_reducible rfl
   rotate_left
   ·simp only [Act.put, List.setIfInBounds_toArray, List.set_cons_zero, List.set_cons_succ, i64_w, i32_w]
    rfl
   refine pure_ (i := 4) (N := some 21) (v := ?_) (a' := ?_) bqFx79_4 rfl rfl (any_of HT_.out (by kernel_rfl)) (fun _ _ _ h => h) (Or.inl ⟨by rfl, ?_⟩) ?_ ?_
   rotate_left
   ·intro w'
    go_simp
    with_reducible rfl
   rotate_left
   ·simp only [Act.put, List.setIfInBounds_toArray, List.set_cons_zero, List.set_cons_succ, i64_w, i32_w]
    rfl
   refine pure_ (i := 5) (N := some 22) (v := ?_) (a' := ?_) bqFx79_5 rfl rfl (any_of HT_.out (by kernel_rfl)) (fun _ _ _ h => h) (Or.inl ⟨by rfl, ?_⟩) ?_ ?_
   rotate_left
   ·intro w'
    go_simp
    with_reducible rfl
   rotate_left
   ·simp only [Act.put, List.setIfInBounds_toArray, List.set_cons_zero, List.set_cons_succ, i64_w, i32_w]
    rfl
   refine pure_ (i := 6) (N := some 23) (v := ?_) (a' := ?_) bqFx79_6 rfl rfl (any_of HT_.out (by kernel_rfl)) (fun _ _ _ h => h) (Or.inl ⟨by rfl, ?_⟩) ?_ ?_
   rotate_left
   ·intro w'
    go_simp
    with_reducible rfl
   rotate_left
   ·simp only [Act.put, List.setIfInBounds_toArray, List.set_cons_zero, List.set_cons_succ, i64_w, i32_w]
    rfl
   refine take_ (i := 3) (N := some 20) (v := ?_) (a' := ?_) bqFx79_7 rfl rfl (take_ofW HT_.out HW_.out (by kernel_rfl)) (fun _ _ _ h => h) (Or.inl ⟨by rfl, ?_⟩) hHeld ?_ ?_
   rotate_left
   ·rintro w' ⟨s0, s1, s2, s3⟩
    go_simp
    with_reducible rfl
   rotate_left
   ·simp only [Act.put, List.setIfInBounds_toArray, List.set_cons_zero, List.set_cons_succ, i64_w, i32_w]
    rfl
   refine take_ (i := 7) (N := some 24) (v := ?_) (a' := ?_) bqFx79_8 rfl rfl (take_ofW HT_.out HW_.out (by kernel_rfl)) (fun _ _ _ h => h) (Or.inl ⟨by rfl, ?_⟩) hHeld ?_ ?_
   rotate_left
   ·rintro w' ⟨s0, s1, s2, s3⟩
    go_simp
    with_reducible rfl
   rotate_left
   ·simp only [Act.put, List.setIfInBounds_toArray, List.set_cons_zero, List.set_cons_succ, i64_w, i32_w]
    rfl
   refine one_ (i := 8) (N := some 25) bqFx79_9 rfl rfl (one_of HT_.out (by kernel_rfl)) (by decide) (fun K hK => ?_)
   refine goes_ Try.func143 (by kernel_rfl) rfl #[.agg #[.slice A791001_0 ((rd_T115 l0 x5_1).f0).length c791001_0, .int .i64 ((rd_T115 l0 x5_1).f1)], .agg #[.slice A791002_0 ((rd_T115 l1 x5_1).f0).length c791002_0, .int .i64 ((rd_T115 l1 x5_1).f1)]] (by rfl) rfl rfl (by (try simp only [List.map_toArray, List.map_cons, List.map_nil]); first | done | rfl | (simp only [List.length_drop, List.length_take]; rfl)) ?_
   with_reducible refine (laws_eqTerm.calls k1 _ _ ((rd_T115 l0 x5_1).f0) ((rd_T115 l0 x5_1).f1) _ _ ((rd_T115 l1 x5_1).f0) ((rd_T115 l1 x5_1).f1) true _ ?side1 ?side2 ?side3 ?side4 A7.out).mono ?_
   (case side1 => repeat (first | exact (Kd.C_below HR791001_0.out HB.out) | (with_reducible refine Kd.C_alloc ?_ _) | (with_reducible refine Kd.C_drewN ?_ _) | (with_reducible refine Kd.C_drew ?_)))
   (case side2 => exact HC791001_0.out)
   (case side3 => repeat (first | exact (Kd.C_below HR791002_0.out HB.out) | (with_reducible refine Kd.C_alloc ?_ _) | (with_reducible refine Kd.C_drewN ?_ _) | (with_reducible refine Kd.C_drew ?_)))
   (case side4 => exact HC791002_0.out)
   rintro e w10 ⟨rfl, hb⟩
   refine ⟨_, rfl, ?_⟩
   have n0_ := Aside0.mk (below_step (by repeat (first | (with_reducible first | exact HB.out | apply below_alloc | apply pw_below_drewN | apply below_drew1) | exact HB.out)) hb)
   clear HB
   have HB := n0_
   clear n0_
   (try clear hb)
   (try clear hb2)
   (try clear hk)
   (try clear hi)
   refine hK.out _ _ ⟨((HB.out.cell (World.block_lt_of_cell? w _ hw791001_0)).trans hw791001_0), ((HB.out.cell (World.block_lt_of_cell? w _ hw791001_1)).trans hw791001_1), ((HB.out.cell (World.block_lt_of_cell? w _ hw791002_0)).trans hw791002_0), ((HB.out.cell (World.block_lt_of_cell? w _ hw791002_1)).trans hw791002_1)⟩ (fun hHeld => ?_)
   clear hK K
   refine norm_ (a' := ?_) ?_ ?_
   rotate_left
   ·show Act.put _ (some 25) _ = _
    simp only [Act.put, List.setIfInBounds_toArray, List.set_cons_zero, List.set_cons_succ, i64_w, i32_w]
    rfl
   refine pure_ (i := 9) (N := some 26) (v := ?_) (a' := ?_) bqFx79_10 rfl rfl (any_of HT_.out (by kernel_rfl)) (fun _ _ _ h => h) (Or.inl ⟨by rfl, ?_⟩) ?_ ?_
   rotate_left
   ·intro w'
    go_simp
    with_reducible rfl
   rotate_left
   ·simp only [Act.put, List.setIfInBounds_toArray, List.set_cons_zero, List.set_cons_succ, i64_w, i32_w]
    rfl
   refine done_ (done_of HT_.out (by kernel_rfl)) ?_
   try go_wp2
   go_roundg k1
   case measure => have := HK1.out; omega
   case rel => exact ⟨(wrap64 (x5_1 + 1)), (by first | rfl | (simp; done) | (simp [*]; done)), H', ⟨by have := HK1.out; omega⟩, ⟨by repeat (first | (with_reducible first | exact HB.out | apply below_alloc | apply pw_below_drewN | apply below_drew1) | exact HB.out)⟩⟩
end Go.Proofs.Ytmeggliapebkgaa.F
end
section
namespace Go.Proofs.Ytmeggliapebkgaa.F
open Go.RowKit Go.Proofs.YtmeggliapebkgaaW.PrintWords Go.Proofs.YtmeggliapebkgaaW.PrintLast Go.Proofs.YtmeggliapebkgaaW.PrintMore
attribute [local go_sem] max2_int min2_int max_two min_two max_three min_three max_four min_four   
set_option linter.unusedVariables false
set_option linter.unusedSimpArgs false
def laws_eqSum.f (k : Nat) (a0_0 : Int) (l0_1 : List (S115)) (a1_0 : Int) (l1_1 : List (S115)) : Option (Bool) := if a0_0 = a1_0 then ((laws_eqTermS.f k l0_1 l1_1).bind fun t361003 => (if t361003 = true then (some true) else (some false))) else (some false)
theorem laws_eqSum.mono : ∀ a0 a1 a2 a3 k, LeO (laws_eqSum.f k a0 a1 a2 a3) (laws_eqSum.f (k + 1) a0 a1 a2 a3) := by
 intro a0 a1 a2 a3 k
 unfold laws_eqSum.f
 repeat' first
   | (with_reducible exact laws_eqTermS.mono _ _ _)
   | (with_reducible exact LeO.refl _)
   | (with_reducible exact LeO.none _)
   | (with_reducible refine LeO.ite ?_ ?_)
   | (with_reducible refine LeO.bind ?_ (fun _ => ?_))
   | exact laws_eqTermS.mono _ _ _
   | exact LeO.none _
   | refine LeO.ite ?_ ?_
   | refine LeO.bind ?_ (fun _ => ?_)
set_option maxHeartbeats 8000000 in
set_option maxRecDepth 100000 in
theorem laws_eqSum.calls (k : Nat) (a0_0 : Int) (A0_1 : Option Addr) (c0_1 : Nat) (l0_1 : List (S115)) (a1_0 : Int) (A1_1 : Option Addr) (c1_1 : Nat) (l1_1 : List (S115)) (r : Bool) (w : World) (hr0_1 : Kd.C k115 w A0_1 l0_1.length l0_1) (hc0_1 : l0_1.length ≤ c0_1) (hr1_1 : Kd.C k115 w A1_1 l1_1.length l1_1) (hc1_1 : l1_1.length ≤ c1_1) (h : laws_eqSum.f k a0_0 l0_1 a1_0 l1_1 = some r) :
  Calls Try.prog 36 #[.agg #[.int .i64 a0_0, .slice A0_1 l0_1.length c0_1], .agg #[.int .i64 a1_0, .slice A1_1 l1_1.length c1_1]] w fun e w' => e = .returned (.bool r) ∧ Below w.heap.size w w' := by
 have hu46 := Try.underlying46
 have HR0_1 := Aside0.mk hr0_1
 have HC0_1 := Aside0.mk hc0_1
 clear hr0_1 hc0_1
 have HR1_1 := Aside0.mk hr1_1
 have HC1_1 := Aside0.mk hc1_1
 clear hr1_1 hc1_1
 have HB := Aside0.mk (Below.refl w.heap.size w)
 have H : (if a0_0 = a1_0 then ((laws_eqTermS.f k l0_1 l1_1).bind fun t361003 => (if t361003 = true then (some true) else (some false))) else (some false)) = some r := h
 clear h
 by_cases c3 : a0_0 = a1_0
 rotate_left
 ·rw [if_neg c3] at H
  have c3b0 : (a0_0 == a1_0) = false := beq_eq_false_iff_ne.mpr c3
  have c3b1 : (a0_0 != a1_0) = true := bne_iff_ne.mpr c3
  obtain rfl := Option.some.inj H
  go_enter Try.func36, Try.ntmps36
  go_wp2_with (first | ((with_reducible refine gate_dst (N := 2) rfl ?_); refine box_event ?hg (N := 2) ?hd (cs := #[.int .i64 a0_0, .slice A0_1 l0_1.length c0_1]) (t := 46) ?hr ?_; (case hd => rfl); (case hg => rfl); (case hr => first | (go_simp; done) | (go_simp; rfl)); intro gb361001 hg w18 hbox hb; have n0_ := Aside0.mk (below_step (by repeat (first | (with_reducible first | exact HB.out | apply below_alloc | apply pw_below_drewN | apply below_drew1) | exact HB.out)) hb); have n1_ := Aside0.mk (hbox); have n2_ := Aside0.mk ((by rw [hg]; exact (below_size (by repeat (first | (with_reducible first | exact HB.out | apply below_alloc | apply pw_below_drewN | apply below_drew1) | exact HB.out))) : w.heap.size ≤ gb361001)); have n3_ := Aside0.mk ((by rw [hg]; exact (below_size (by repeat (first | (with_reducible first | exact HB.out | apply below_alloc | apply pw_below_drewN | apply below_drew1) | exact HB.out))) : w.heap.size ≤ gb361001)); clear HB; have HB := n0_; have BK361001 := n1_; have GW361001 := n2_; have GE361001 := n3_; clear n0_ n1_ n2_ n3_; clear hb hbox hg) | ((with_reducible refine gate_dst (N := 3) rfl ?_); refine box_event ?hg (N := 3) ?hd (cs := #[.int .i64 a1_0, .slice A1_1 l1_1.length c1_1]) (t := 46) ?hr ?_; (case hd => rfl); (case hg => rfl); (case hr => first | (go_simp; done) | (go_simp; rfl)); intro gb361002 hg w19 hbox hb; have n0_ := Aside0.mk (blk_below (g := gb361001) (o := .cells #[.int .i64 a0_0, .slice A0_1 l0_1.length c0_1] 46 (0, 0)) (by (with_reducible repeat (first | refine blk_drewN ?_ _ | refine blk_drew ?_ | refine blk_alloc ?_ _)); exact BK361001.out) hb); have n1_ := Aside0.mk (below_step (by repeat (first | (with_reducible first | exact HB.out | apply below_alloc | apply pw_below_drewN | apply below_drew1 | refine below_set ?_ GE361001.out) | exact HB.out)) hb); have n2_ := Aside0.mk (hbox); have n3_ := Aside0.mk ((by rw [hg]; exact (below_size (by repeat (first | (with_reducible first | exact HB.out | apply below_alloc | apply pw_below_drewN | apply below_drew1 | refine below_set ?_ GE361001.out) | exact HB.out))) : w.heap.size ≤ gb361002)); have n4_ := Aside0.mk ((by rw [hg]; exact (below_size (by repeat (first | (with_reducible first | exact HB.out | apply below_alloc | apply pw_below_drewN | apply below_drew1 | refine below_set ?_ GE361001.out) | exact HB.out))) : w.heap.size ≤ gb361002)); have n5_ := Aside0.mk ((by rw [hg]; exact Nat.ne_of_lt (blk_lt (g := gb361001) (o := .cells #[.int .i64 a0_0, .slice A0_1 l0_1.length c0_1] 46 (0, 0)) (by (with_reducible repeat (first | refine blk_drewN ?_ _ | refine blk_drew ?_ | refine blk_alloc ?_ _)); exact BK361001.out)) : gb361001 ≠ gb361002)); have n6_ := Aside0.mk ((by rw [hg]; exact Nat.ne_of_gt (blk_lt (g := gb361001) (o := .cells #[.int .i64 a0_0, .slice A0_1 l0_1.length c0_1] 46 (0, 0)) (by (with_reducible repeat (first | refine blk_drewN ?_ _ | refine blk_drew ?_ | refine blk_alloc ?_ _)); exact BK361001.out)) : gb361002 ≠ gb361001)); clear BK361001; clear HB; have BK361001 := n0_; have HB := n1_; have BK361002 := n2_; have GW361002 := n3_; have GE361002 := n4_; have NB361001_361002 := n5_; have NB361002_361001 := n6_; clear n0_ n1_ n2_ n3_ n4_ n5_ n6_; clear hb hbox hg; have hnb20 := NB361001_361002.out; have hnc20 := NB361002_361001.out; have hcz21_0 : w19.cell? ⟨gb361001, 0, none⟩ = some (.int .i64 a0_0) := (blk_cell BK361001.out 0).trans rfl; have hcz21_1 : w19.cell? ⟨gb361001, 1, none⟩ = some (.slice A0_1 l0_1.length c0_1) := (blk_cell BK361001.out 1).trans rfl; have hfz21_0 := blk_frozen BK361001.out 0; have hfz21_1 := blk_frozen BK361001.out 1; have hcz22_0 : w19.cell? ⟨gb361002, 0, none⟩ = some (.int .i64 a1_0) := (blk_cell BK361002.out 0).trans rfl; have hcz22_1 : w19.cell? ⟨gb361002, 1, none⟩ = some (.slice A1_1 l1_1.length c1_1) := (blk_cell BK361002.out 1).trans rfl; have hfz22_0 := blk_frozen BK361002.out 0; have hfz22_1 := blk_frozen BK361002.out 1))
  go_ret
  exact ⟨by first | rfl | (simp [errW_none, errW_some] <;> rfl) | (simp [*, errW_none, errW_some] <;> rfl), by repeat (first | (with_reducible first | exact HB.out | apply below_alloc | apply pw_below_drewN | apply below_drew1 | refine below_set ?_ GE361001.out | refine below_set ?_ GE361002.out) | exact HB.out)⟩
 rw [if_pos c3] at H
 have c3b0 : (a0_0 == a1_0) = true := beq_iff_eq.mpr c3
 have c3b1 : (a0_0 != a1_0) = false := bne_eq_false_iff_eq.mpr c3
 clear c3
 replace H := Option.bind_eq_some_iff.mp H
 obtain ⟨t361003, A40, H⟩ := H
 replace H : (if t361003 = true then (some true) else (some false)) = some r := H
 have A4 := Aside0.mk A40
 clear A40
 by_cases c5 : t361003 = true
 ·subst c5
  have H1 : (some true) = some r := by rw [if_pos rfl] at H; exact H
  clear H
  have H := H1
  clear H1
  obtain rfl := Option.some.inj H
  go_enter Try.func36, Try.ntmps36
  go_wp2_with (first | ((with_reducible refine gate_dst (N := 2) rfl ?_); refine box_event ?hg (N := 2) ?hd (cs := #[.int .i64 a0_0, .slice A0_1 l0_1.length c0_1]) (t := 46) ?hr ?_; (case hd => rfl); (case hg => rfl); (case hr => first | (go_simp; done) | (go_simp; rfl)); intro gb361001 hg w6 hbox hb; have n0_ := Aside0.mk (below_step (by repeat (first | (with_reducible first | exact HB.out | apply below_alloc | apply pw_below_drewN | apply below_drew1) | exact HB.out)) hb); have n1_ := Aside0.mk (hbox); have n2_ := Aside0.mk ((by rw [hg]; exact (below_size (by repeat (first | (with_reducible first | exact HB.out | apply below_alloc | apply pw_below_drewN | apply below_drew1) | exact HB.out))) : w.heap.size ≤ gb361001)); have n3_ := Aside0.mk ((by rw [hg]; exact (below_size (by repeat (first | (with_reducible first | exact HB.out | apply below_alloc | apply pw_below_drewN | apply below_drew1) | exact HB.out))) : w.heap.size ≤ gb361001)); clear HB; have HB := n0_; have BK361001 := n1_; have GW361001 := n2_; have GE361001 := n3_; clear n0_ n1_ n2_ n3_; clear hb hbox hg) | ((with_reducible refine gate_dst (N := 3) rfl ?_); refine box_event ?hg (N := 3) ?hd (cs := #[.int .i64 a1_0, .slice A1_1 l1_1.length c1_1]) (t := 46) ?hr ?_; (case hd => rfl); (case hg => rfl); (case hr => first | (go_simp; done) | (go_simp; rfl)); intro gb361002 hg w7 hbox hb; have n0_ := Aside0.mk (blk_below (g := gb361001) (o := .cells #[.int .i64 a0_0, .slice A0_1 l0_1.length c0_1] 46 (0, 0)) (by (with_reducible repeat (first | refine blk_drewN ?_ _ | refine blk_drew ?_ | refine blk_alloc ?_ _)); exact BK361001.out) hb); have n1_ := Aside0.mk (below_step (by repeat (first | (with_reducible first | exact HB.out | apply below_alloc | apply pw_below_drewN | apply below_drew1 | refine below_set ?_ GE361001.out) | exact HB.out)) hb); have n2_ := Aside0.mk (hbox); have n3_ := Aside0.mk ((by rw [hg]; exact (below_size (by repeat (first | (with_reducible first | exact HB.out | apply below_alloc | apply pw_below_drewN | apply below_drew1 | refine below_set ?_ GE361001.out) | exact HB.out))) : w.heap.size ≤ gb361002)); have n4_ := Aside0.mk ((by rw [hg]; exact (below_size (by repeat (first | (with_reducible first | exact HB.out | apply below_alloc | apply pw_below_drewN | apply below_drew1 | refine below_set ?_ GE361001.out) | exact HB.out))) : w.heap.size ≤ gb361002)); have n5_ := Aside0.mk ((by rw [hg]; exact Nat.ne_of_lt (blk_lt (g := gb361001) (o := .cells #[.int .i64 a0_0, .slice A0_1 l0_1.length c0_1] 46 (0, 0)) (by (with_reducible repeat (first | refine blk_drewN ?_ _ | refine blk_drew ?_ | refine blk_alloc ?_ _)); exact BK361001.out)) : gb361001 ≠ gb361002)); have n6_ := Aside0.mk ((by rw [hg]; exact Nat.ne_of_gt (blk_lt (g := gb361001) (o := .cells #[.int .i64 a0_0, .slice A0_1 l0_1.length c0_1] 46 (0, 0)) (by (with_reducible repeat (first | refine blk_drewN ?_ _ | refine blk_drew ?_ | refine blk_alloc ?_ _)); exact BK361001.out)) : gb361002 ≠ gb361001)); clear BK361001; clear HB; have BK361001 := n0_; have HB := n1_; have BK361002 := n2_; have GW361002 := n3_; have GE361002 := n4_; have NB361001_361002 := n5_; have NB361002_361001 := n6_; clear n0_ n1_ n2_ n3_ n4_ n5_ n6_; clear hb hbox hg; have hnb8 := NB361001_361002.out; have hnc8 := NB361002_361001.out; have hcz9_0 : w7.cell? ⟨gb361001, 0, none⟩ = some (.int .i64 a0_0) := (blk_cell BK361001.out 0).trans rfl; have hcz9_1 : w7.cell? ⟨gb361001, 1, none⟩ = some (.slice A0_1 l0_1.length c0_1) := (blk_cell BK361001.out 1).trans rfl; have hfz9_0 := blk_frozen BK361001.out 0; have hfz9_1 := blk_frozen BK361001.out 1; have hcz10_0 : w7.cell? ⟨gb361002, 0, none⟩ = some (.int .i64 a1_0) := (blk_cell BK361002.out 0).trans rfl; have hcz10_1 : w7.cell? ⟨gb361002, 1, none⟩ = some (.slice A1_1 l1_1.length c1_1) := (blk_cell BK361002.out 1).trans rfl; have hfz10_0 := blk_frozen BK361002.out 0; have hfz10_1 := blk_frozen BK361002.out 1) | ((with_reducible refine gate_callee (f := 79) rfl ?_); refine goesL_ (some 14) rfl rfl Try.func79 (by kernel_rfl) rfl #[.slice A0_1 l0_1.length c0_1, .slice A1_1 l1_1.length c1_1] rfl (by (try simp only [List.map_toArray, List.map_cons, List.map_nil]); first | done | rfl | (simp only [List.length_drop, List.length_take]; rfl)) ?_; (with_reducible refine (laws_eqTermS.calls k _ _ l0_1 _ _ l1_1 true _ ?side1 ?side2 ?side3 ?side4 A4.out).mono ?_); (case side1 => repeat (first | exact (Kd.C_below HR0_1.out HB.out) | (with_reducible refine Kd.C_alloc ?_ _) | (with_reducible refine Kd.C_drewN ?_ _) | (with_reducible refine Kd.C_drew ?_))); (case side2 => exact HC0_1.out); (case side3 => repeat (first | exact (Kd.C_below HR1_1.out HB.out) | (with_reducible refine Kd.C_alloc ?_ _) | (with_reducible refine Kd.C_drewN ?_ _) | (with_reducible refine Kd.C_drew ?_))); (case side4 => exact HC1_1.out); rintro e w11 ⟨rfl, hb⟩; refine ⟨_, rfl, ?_⟩; have n0_ := Aside0.mk (blk_below (g := gb361001) (o := .cells #[.int .i64 a0_0, .slice A0_1 l0_1.length c0_1] 46 (0, 0)) (by (with_reducible repeat (first | refine blk_drewN ?_ _ | refine blk_drew ?_ | refine blk_alloc ?_ _)); exact BK361001.out) hb); have n1_ := Aside0.mk (blk_below (g := gb361002) (o := .cells #[.int .i64 a1_0, .slice A1_1 l1_1.length c1_1] 46 (0, 0)) (by (with_reducible repeat (first | refine blk_drewN ?_ _ | refine blk_drew ?_ | refine blk_alloc ?_ _)); exact BK361002.out) hb); have n2_ := Aside0.mk (below_step (by repeat (first | (with_reducible first | exact HB.out | apply below_alloc | apply pw_below_drewN | apply below_drew1 | refine below_set ?_ GE361001.out | refine below_set ?_ GE361002.out) | exact HB.out)) hb); clear BK361001; clear BK361002; clear HB; have BK361001 := n0_; have BK361002 := n1_; have HB := n2_; clear n0_ n1_ n2_; (try clear hb); (try clear hb2); (try clear hk); (try clear hi)))
  go_ret
  exact ⟨by first | rfl | (simp [errW_none, errW_some] <;> rfl) | (simp [*, errW_none, errW_some] <;> rfl), by repeat (first | (with_reducible first | exact HB.out | apply below_alloc | apply pw_below_drewN | apply below_drew1 | refine below_set ?_ GE361001.out | refine below_set ?_ GE361002.out) | exact HB.out)⟩
 replace c5 := Bool.eq_false_iff.mpr c5
 subst c5
 have H1 : (some false) = some r := by rw [if_neg (show ¬ (false = true) by decide)] at H; exact H
 clear H
 have H := H1
 clear H1
 obtain rfl := Option.some.inj H
 go_enter Try.func36, Try.ntmps36
 go_wp2_with (first | ((with_reducible refine gate_dst (N := 2) rfl ?_); refine box_event ?hg (N := 2) ?hd (cs := #[.int .i64 a0_0, .slice A0_1 l0_1.length c0_1]) (t := 46) ?hr ?_; (case hd => rfl); (case hg => rfl); (case hr => first | (go_simp; done) | (go_simp; rfl)); intro gb361001 hg w12 hbox hb; have n0_ := Aside0.mk (below_step (by repeat (first | (with_reducible first | exact HB.out | apply below_alloc | apply pw_below_drewN | apply below_drew1) | exact HB.out)) hb); have n1_ := Aside0.mk (hbox); have n2_ := Aside0.mk ((by rw [hg]; exact (below_size (by repeat (first | (with_reducible first | exact HB.out | apply below_alloc | apply pw_below_drewN | apply below_drew1) | exact HB.out))) : w.heap.size ≤ gb361001)); have n3_ := Aside0.mk ((by rw [hg]; exact (below_size (by repeat (first | (with_reducible first | exact HB.out | apply below_alloc | apply pw_below_drewN | apply below_drew1) | exact HB.out))) : w.heap.size ≤ gb361001)); clear HB; have HB := n0_; have BK361001 := n1_; have GW361001 := n2_; have GE361001 := n3_; clear n0_ n1_ n2_ n3_; clear hb hbox hg) | ((with_reducible refine gate_dst (N := 3) rfl ?_); refine box_event ?hg (N := 3) ?hd (cs := #[.int .i64 a1_0, .slice A1_1 l1_1.length c1_1]) (t := 46) ?hr ?_; (case hd => rfl); (case hg => rfl); (case hr => first | (go_simp; done) | (go_simp; rfl)); intro gb361002 hg w13 hbox hb; have n0_ := Aside0.mk (blk_below (g := gb361001) (o := .cells #[.int .i64 a0_0, .slice A0_1 l0_1.length c0_1] 46 (0, 0)) (by (with_reducible repeat (first | refine blk_drewN ?_ _ | refine blk_drew ?_ | refine blk_alloc ?_ _)); exact BK361001.out) hb); have n1_ := Aside0.mk (below_step (by repeat (first | (with_reducible first | exact HB.out | apply below_alloc | apply pw_below_drewN | apply below_drew1 | refine below_set ?_ GE361001.out) | exact HB.out)) hb); have n2_ := Aside0.mk (hbox); have n3_ := Aside0.mk ((by rw [hg]; exact (below_size (by repeat (first | (with_reducible first | exact HB.out | apply below_alloc | apply pw_below_drewN | apply below_drew1 | refine below_set ?_ GE361001.out) | exact HB.out))) : w.heap.size ≤ gb361002)); have n4_ := Aside0.mk ((by rw [hg]; exact (below_size (by repeat (first | (with_reducible first | exact HB.out | apply below_alloc | apply pw_below_drewN | apply below_drew1 | refine below_set ?_ GE361001.out) | exact HB.out))) : w.heap.size ≤ gb361002)); have n5_ := Aside0.mk ((by rw [hg]; exact Nat.ne_of_lt (blk_lt (g := gb361001) (o := .cells #[.int .i64 a0_0, .slice A0_1 l0_1.length c0_1] 46 (0, 0)) (by (with_reducible repeat (first | refine blk_drewN ?_ _ | refine blk_drew ?_ | refine blk_alloc ?_ _)); exact BK361001.out)) : gb361001 ≠ gb361002)); have n6_ := Aside0.mk ((by rw [hg]; exact Nat.ne_of_gt (blk_lt (g := gb361001) (o := .cells #[.int .i64 a0_0, .slice A0_1 l0_1.length c0_1] 46 (0, 0)) (by (with_reducible repeat (first | refine blk_drewN ?_ _ | refine blk_drew ?_ | refine blk_alloc ?_ _)); exact BK361001.out)) : gb361002 ≠ gb361001)); clear BK361001; clear HB; have BK361001 := n0_; have HB := n1_; have BK361002 := n2_; have GW361002 := n3_; have GE361002 := n4_; have NB361001_361002 := n5_; have NB361002_361001 := n6_; clear n0_ n1_ n2_ n3_ n4_ n5_ n6_; clear hb hbox hg; have hnb14 := NB361001_361002.out; have hnc14 := NB361002_361001.out; have hcz15_0 : w13.cell? ⟨gb361001, 0, none⟩ = some (.int .i64 a0_0) := (blk_cell BK361001.out 0).trans rfl; have hcz15_1 : w13.cell? ⟨gb361001, 1, none⟩ = some (.slice A0_1 l0_1.length c0_1) := (blk_cell BK361001.out 1).trans rfl; have hfz15_0 := blk_frozen BK361001.out 0; have hfz15_1 := blk_frozen BK361001.out 1; have hcz16_0 : w13.cell? ⟨gb361002, 0, none⟩ = some (.int .i64 a1_0) := (blk_cell BK361002.out 0).trans rfl; have hcz16_1 : w13.cell? ⟨gb361002, 1, none⟩ = some (.slice A1_1 l1_1.length c1_1) := (blk_cell BK361002.out 1).trans rfl; have hfz16_0 := blk_frozen BK361002.out 0; have hfz16_1 := blk_frozen BK361002.out 1) | ((with_reducible refine gate_callee (f := 79) rfl ?_); refine goesL_ (some 14) rfl rfl Try.func79 (by kernel_rfl) rfl #[.slice A0_1 l0_1.length c0_1, .slice A1_1 l1_1.length c1_1] rfl (by (try simp only [List.map_toArray, List.map_cons, List.map_nil]); first | done | rfl | (simp only [List.length_drop, List.length_take]; rfl)) ?_; (with_reducible refine (laws_eqTermS.calls k _ _ l0_1 _ _ l1_1 false _ ?side1 ?side2 ?side3 ?side4 A4.out).mono ?_); (case side1 => repeat (first | exact (Kd.C_below HR0_1.out HB.out) | (with_reducible refine Kd.C_alloc ?_ _) | (with_reducible refine Kd.C_drewN ?_ _) | (with_reducible refine Kd.C_drew ?_))); (case side2 => exact HC0_1.out); (case side3 => repeat (first | exact (Kd.C_below HR1_1.out HB.out) | (with_reducible refine Kd.C_alloc ?_ _) | (with_reducible refine Kd.C_drewN ?_ _) | (with_reducible refine Kd.C_drew ?_))); (case side4 => exact HC1_1.out); rintro e w17 ⟨rfl, hb⟩; refine ⟨_, rfl, ?_⟩; have n0_ := Aside0.mk (blk_below (g := gb361001) (o := .cells #[.int .i64 a0_0, .slice A0_1 l0_1.length c0_1] 46 (0, 0)) (by (with_reducible repeat (first | refine blk_drewN ?_ _ | refine blk_drew ?_ | refine blk_alloc ?_ _)); exact BK361001.out) hb); have n1_ := Aside0.mk (blk_below (g := gb361002) (o := .cells #[.int .i64 a1_0, .slice A1_1 l1_1.length c1_1] 46 (0, 0)) (by (with_reducible repeat (first | refine blk_drewN ?_ _ | refine blk_drew ?_ | refine blk_alloc ?_ _)); exact BK361002.out) hb); have n2_ := Aside0.mk (below_step (by repeat (first | (with_reducible first | exact HB.out | apply below_alloc | apply pw_below_drewN | apply below_drew1 | refine below_set ?_ GE361001.out | refine below_set ?_ GE361002.out) | exact HB.out)) hb); clear BK361001; clear BK361002; clear HB; have BK361001 := n0_; have BK361002 := n1_; have HB := n2_; clear n0_ n1_ n2_; (try clear hb); (try clear hb2); (try clear hk); (try clear hi)))
 go_ret
 exact ⟨by first | rfl | (simp [errW_none, errW_some] <;> rfl) | (simp [*, errW_none, errW_some] <;> rfl), by repeat (first | (with_reducible first | exact HB.out | apply below_alloc | apply pw_below_drewN | apply below_drew1 | refine below_set ?_ GE361001.out | refine below_set ?_ GE361002.out) | exact HB.out)⟩
end Go.Proofs.Ytmeggliapebkgaa.F
end
section
namespace Go.Proofs.Ytmeggliapebkgaa.F
open Go.RowKit Go.Proofs.YtmeggliapebkgaaW.PrintWords Go.Proofs.YtmeggliapebkgaaW.PrintLast Go.Proofs.YtmeggliapebkgaaW.PrintMore
attribute [local go_sem] max2_int min2_int max_two min_two max_three min_three max_four min_four   
set_option linter.unusedVariables false
set_option linter.unusedSimpArgs false
def laws_eqDesk.f (k : Nat) (l0_0 : List Int) (a0_1 : Int) (l0_2 : List (S115)) (l0_3 : List Int) (l0_4 : List (List Int)) (l1_0 : List Int) (a1_1 : Int) (l1_2 : List (S115)) (l1_3 : List Int) (l1_4 : List (List Int)) : Option (Bool) := (laws_eqInt64S.f k l0_0 l1_0).bind fun t231003 => (if t231003 = true then ((laws_eqSum.f k a0_1 l0_2 a1_1 l1_2).bind fun t231004 => (if t231004 = true then ((laws_eqWeb.f k l0_3 l0_4 l1_3 l1_4).bind fun t231005 => (if t231005 = true then (some true) else (some false))) else (some false))) else (some false))
theorem laws_eqDesk.mono : ∀ a0 a1 a2 a3 a4 a5 a6 a7 a8 a9 k, LeO (laws_eqDesk.f k a0 a1 a2 a3 a4 a5 a6 a7 a8 a9) (laws_eqDesk.f (k + 1) a0 a1 a2 a3 a4 a5 a6 a7 a8 a9) := by
 intro a0 a1 a2 a3 a4 a5 a6 a7 a8 a9 k
 unfold laws_eqDesk.f
 repeat' first
   | (with_reducible exact laws_eqInt64S.mono _ _ _)
   | (with_reducible exact laws_eqSum.mono _ _ _ _ _)
   | (with_reducible exact laws_eqWeb.mono _ _ _ _ _)
   | (with_reducible exact LeO.refl _)
   | (with_reducible exact LeO.none _)
   | (with_reducible refine LeO.ite ?_ ?_)
   | (with_reducible refine LeO.bind ?_ (fun _ => ?_))
   | exact laws_eqInt64S.mono _ _ _
   | exact laws_eqSum.mono _ _ _ _ _
   | exact laws_eqWeb.mono _ _ _ _ _
   | exact LeO.none _
   | refine LeO.ite ?_ ?_
   | refine LeO.bind ?_ (fun _ => ?_)
set_option maxHeartbeats 8000000 in
set_option maxRecDepth 100000 in
theorem laws_eqDesk.calls (k : Nat) (A0_0 : Option Addr) (c0_0 : Nat) (l0_0 : List Int) (a0_1 : Int) (A0_2 : Option Addr) (c0_2 : Nat) (l0_2 : List (S115)) (A0_3 : Option Addr) (c0_3 : Nat) (l0_3 : List Int) (A0_4 : Option Addr) (c0_4 : Nat) (l0_4 : List (List Int)) (A1_0 : Option Addr) (c1_0 : Nat) (l1_0 : List Int) (a1_1 : Int) (A1_2 : Option Addr) (c1_2 : Nat) (l1_2 : List (S115)) (A1_3 : Option Addr) (c1_3 : Nat) (l1_3 : List Int) (A1_4 : Option Addr) (c1_4 : Nat) (l1_4 : List (List Int)) (r : Bool) (w : World) (hr0_0 : Kd.C (Kd.int .i64) w A0_0 l0_0.length l0_0) (hc0_0 : l0_0.length ≤ c0_0) (hr0_2 : Kd.C k115 w A0_2 l0_2.length l0_2) (hc0_2 : l0_2.length ≤ c0_2) (hr0_3 : Kd.C (Kd.int .i64) w A0_3 l0_3.length l0_3) (hc0_3 : l0_3.length ≤ c0_3) (hr0_4 : Kd.C (Kd.slice 2 (Kd.int .i64)) w A0_4 l0_4.length l0_4) (hc0_4 : l0_4.length ≤ c0_4) (hr1_0 : Kd.C (Kd.int .i64) w A1_0 l1_0.length l1_0) (hc1_0 : l1_0.length ≤ c1_0) (hr1_2 : Kd.C k115 w A1_2 l1_2.length l1_2) (hc1_2 : l1_2.length ≤ c1_2) (hr1_3 : Kd.C (Kd.int .i64) w A1_3 l1_3.length l1_3) (hc1_3 : l1_3.length ≤ c1_3) (hr1_4 : Kd.C (Kd.slice 2 (Kd.int .i64)) w A1_4 l1_4.length l1_4) (hc1_4 : l1_4.length ≤ c1_4) (h : laws_eqDesk.f k l0_0 a0_1 l0_2 l0_3 l0_4 l1_0 a1_1 l1_2 l1_3 l1_4 = some r) :
  Calls Try.prog 23 #[.agg #[.slice A0_0 l0_0.length c0_0, .int .i64 a0_1, .slice A0_2 l0_2.length c0_2, .slice A0_3 l0_3.length c0_3, .slice A0_4 l0_4.length c0_4], .agg #[.slice A1_0 l1_0.length c1_0, .int .i64 a1_1, .slice A1_2 l1_2.length c1_2, .slice A1_3 l1_3.length c1_3, .slice A1_4 l1_4.length c1_4]] w fun e w' => e = .returned (.bool r) ∧ Below w.heap.size w w' := by
 have hu48 := Try.underlying48
 have hu46 := Try.underlying46
 have hu30 := Try.underlying30
 have HR0_0 := Aside0.mk hr0_0
 have HC0_0 := Aside0.mk hc0_0
 clear hr0_0 hc0_0
 have HR0_2 := Aside0.mk hr0_2
 have HC0_2 := Aside0.mk hc0_2
 clear hr0_2 hc0_2
 have HR0_3 := Aside0.mk hr0_3
 have HC0_3 := Aside0.mk hc0_3
 clear hr0_3 hc0_3
 have HR0_4 := Aside0.mk hr0_4
 have HC0_4 := Aside0.mk hc0_4
 clear hr0_4 hc0_4
 have HR1_0 := Aside0.mk hr1_0
 have HC1_0 := Aside0.mk hc1_0
 clear hr1_0 hc1_0
 have HR1_2 := Aside0.mk hr1_2
 have HC1_2 := Aside0.mk hc1_2
 clear hr1_2 hc1_2
 have HR1_3 := Aside0.mk hr1_3
 have HC1_3 := Aside0.mk hc1_3
 clear hr1_3 hc1_3
 have HR1_4 := Aside0.mk hr1_4
 have HC1_4 := Aside0.mk hc1_4
 clear hr1_4 hc1_4
 have HB := Aside0.mk (Below.refl w.heap.size w)
 have H : ((laws_eqInt64S.f k l0_0 l1_0).bind fun t231003 => (if t231003 = true then ((laws_eqSum.f k a0_1 l0_2 a1_1 l1_2).bind fun t231004 => (if t231004 = true then ((laws_eqWeb.f k l0_3 l0_4 l1_3 l1_4).bind fun t231005 => (if t231005 = true then (some true) else (some false))) else (some false))) else (some false))) = some r := h
 clear h
 replace H := Option.bind_eq_some_iff.mp H
 obtain ⟨t231003, A30, H⟩ := H
 replace H : (if t231003 = true then ((laws_eqSum.f k a0_1 l0_2 a1_1 l1_2).bind fun t231004 => (if t231004 = true then ((laws_eqWeb.f k l0_3 l0_4 l1_3 l1_4).bind fun t231005 => (if t231005 = true then (some true) else (some false))) else (some false))) else (some false)) = some r := H
 have A3 := Aside0.mk A30
 clear A30
 by_cases c4 : t231003 = true
 rotate_left
 ·replace c4 := Bool.eq_false_iff.mpr c4
  subst c4
  have H1 : (some false) = some r := by rw [if_neg (show ¬ (false = true) by decide)] at H; exact H
  clear H
  have H := H1
  clear H1
  obtain rfl := Option.some.inj H
  go_enter Try.func23, Try.ntmps23
  go_wp2_with (first | ((with_reducible refine gate_dst (N := 2) rfl ?_); refine box_event ?hg (N := 2) ?hd (cs := #[.slice A0_0 l0_0.length c0_0, .int .i64 a0_1, .slice A0_2 l0_2.length c0_2, .slice A0_3 l0_3.length c0_3, .slice A0_4 l0_4.length c0_4]) (t := 48) ?hr ?_; (case hd => rfl); (case hg => rfl); (case hr => first | (go_simp; done) | (go_simp; rfl)); intro gb231001 hg w33 hbox hb; have n0_ := Aside0.mk (below_step (by repeat (first | (with_reducible first | exact HB.out | apply below_alloc | apply pw_below_drewN | apply below_drew1) | exact HB.out)) hb); have n1_ := Aside0.mk (hbox); have n2_ := Aside0.mk ((by rw [hg]; exact (below_size (by repeat (first | (with_reducible first | exact HB.out | apply below_alloc | apply pw_below_drewN | apply below_drew1) | exact HB.out))) : w.heap.size ≤ gb231001)); have n3_ := Aside0.mk ((by rw [hg]; exact (below_size (by repeat (first | (with_reducible first | exact HB.out | apply below_alloc | apply pw_below_drewN | apply below_drew1) | exact HB.out))) : w.heap.size ≤ gb231001)); clear HB; have HB := n0_; have BK231001 := n1_; have GW231001 := n2_; have GE231001 := n3_; clear n0_ n1_ n2_ n3_; clear hb hbox hg) | ((with_reducible refine gate_dst (N := 3) rfl ?_); refine box_event ?hg (N := 3) ?hd (cs := #[.slice A1_0 l1_0.length c1_0, .int .i64 a1_1, .slice A1_2 l1_2.length c1_2, .slice A1_3 l1_3.length c1_3, .slice A1_4 l1_4.length c1_4]) (t := 48) ?hr ?_; (case hd => rfl); (case hg => rfl); (case hr => first | (go_simp; done) | (go_simp; rfl)); intro gb231002 hg w34 hbox hb; have n0_ := Aside0.mk (blk_below (g := gb231001) (o := .cells #[.slice A0_0 l0_0.length c0_0, .int .i64 a0_1, .slice A0_2 l0_2.length c0_2, .slice A0_3 l0_3.length c0_3, .slice A0_4 l0_4.length c0_4] 48 (0, 0)) (by (with_reducible repeat (first | refine blk_drewN ?_ _ | refine blk_drew ?_ | refine blk_alloc ?_ _)); exact BK231001.out) hb); have n1_ := Aside0.mk (below_step (by repeat (first | (with_reducible first | exact HB.out | apply below_alloc | apply pw_below_drewN | apply below_drew1 | refine below_set ?_ GE231001.out) | exact HB.out)) hb); have n2_ := Aside0.mk (hbox); have n3_ := Aside0.mk ((by rw [hg]; exact (below_size (by repeat (first | (with_reducible first | exact HB.out | apply below_alloc | apply pw_below_drewN | apply below_drew1 | refine below_set ?_ GE231001.out) | exact HB.out))) : w.heap.size ≤ gb231002)); have n4_ := Aside0.mk ((by rw [hg]; exact (below_size (by repeat (first | (with_reducible first | exact HB.out | apply below_alloc | apply pw_below_drewN | apply below_drew1 | refine below_set ?_ GE231001.out) | exact HB.out))) : w.heap.size ≤ gb231002)); have n5_ := Aside0.mk ((by rw [hg]; exact Nat.ne_of_lt (blk_lt (g := gb231001) (o := .cells #[.slice A0_0 l0_0.length c0_0, .int .i64 a0_1, .slice A0_2 l0_2.length c0_2, .slice A0_3 l0_3.length c0_3, .slice A0_4 l0_4.length c0_4] 48 (0, 0)) (by (with_reducible repeat (first | refine blk_drewN ?_ _ | refine blk_drew ?_ | refine blk_alloc ?_ _)); exact BK231001.out)) : gb231001 ≠ gb231002)); have n6_ := Aside0.mk ((by rw [hg]; exact Nat.ne_of_gt (blk_lt (g := gb231001) (o := .cells #[.slice A0_0 l0_0.length c0_0, .int .i64 a0_1, .slice A0_2 l0_2.length c0_2, .slice A0_3 l0_3.length c0_3, .slice A0_4 l0_4.length c0_4] 48 (0, 0)) (by (with_reducible repeat (first | refine blk_drewN ?_ _ | refine blk_drew ?_ | refine blk_alloc ?_ _)); exact BK231001.out)) : gb231002 ≠ gb231001)); clear BK231001; clear HB; have BK231001 := n0_; have HB := n1_; have BK231002 := n2_; have GW231002 := n3_; have GE231002 := n4_; have NB231001_231002 := n5_; have NB231002_231001 := n6_; clear n0_ n1_ n2_ n3_ n4_ n5_ n6_; clear hb hbox hg; have hnb35 := NB231001_231002.out; have hnc35 := NB231002_231001.out; have hcz36_0 : w34.cell? ⟨gb231001, 0, none⟩ = some (.slice A0_0 l0_0.length c0_0) := (blk_cell BK231001.out 0).trans rfl; have hcz36_1 : w34.cell? ⟨gb231001, 1, none⟩ = some (.int .i64 a0_1) := (blk_cell BK231001.out 1).trans rfl; have hcz36_2 : w34.cell? ⟨gb231001, 2, none⟩ = some (.slice A0_2 l0_2.length c0_2) := (blk_cell BK231001.out 2).trans rfl; have hcz36_3 : w34.cell? ⟨gb231001, 3, none⟩ = some (.slice A0_3 l0_3.length c0_3) := (blk_cell BK231001.out 3).trans rfl; have hcz36_4 : w34.cell? ⟨gb231001, 4, none⟩ = some (.slice A0_4 l0_4.length c0_4) := (blk_cell BK231001.out 4).trans rfl; have hfz36_0 := blk_frozen BK231001.out 0; have hfz36_1 := blk_frozen BK231001.out 1; have hfz36_2 := blk_frozen BK231001.out 2; have hfz36_3 := blk_frozen BK231001.out 3; have hfz36_4 := blk_frozen BK231001.out 4; have hcz37_0 : w34.cell? ⟨gb231002, 0, none⟩ = some (.slice A1_0 l1_0.length c1_0) := (blk_cell BK231002.out 0).trans rfl; have hcz37_1 : w34.cell? ⟨gb231002, 1, none⟩ = some (.int .i64 a1_1) := (blk_cell BK231002.out 1).trans rfl; have hcz37_2 : w34.cell? ⟨gb231002, 2, none⟩ = some (.slice A1_2 l1_2.length c1_2) := (blk_cell BK231002.out 2).trans rfl; have hcz37_3 : w34.cell? ⟨gb231002, 3, none⟩ = some (.slice A1_3 l1_3.length c1_3) := (blk_cell BK231002.out 3).trans rfl; have hcz37_4 : w34.cell? ⟨gb231002, 4, none⟩ = some (.slice A1_4 l1_4.length c1_4) := (blk_cell BK231002.out 4).trans rfl; have hfz37_0 := blk_frozen BK231002.out 0; have hfz37_1 := blk_frozen BK231002.out 1; have hfz37_2 := blk_frozen BK231002.out 2; have hfz37_3 := blk_frozen BK231002.out 3; have hfz37_4 := blk_frozen BK231002.out 4) | ((with_reducible refine gate_callee (f := 27) rfl ?_); refine goesL_ (some 9) rfl rfl Try.func27 (by kernel_rfl) rfl #[.slice A0_0 l0_0.length c0_0, .slice A1_0 l1_0.length c1_0] rfl (by (try simp only [List.map_toArray, List.map_cons, List.map_nil]); first | done | rfl | (simp only [List.length_drop, List.length_take]; rfl)) ?_; (with_reducible refine (laws_eqInt64S.calls k _ _ l0_0 _ _ l1_0 false _ ?side1 ?side2 ?side3 ?side4 A3.out).mono ?_); (case side1 => repeat (first | exact (Kd.C_below HR0_0.out HB.out) | (with_reducible refine Kd.C_alloc ?_ _) | (with_reducible refine Kd.C_drewN ?_ _) | (with_reducible refine Kd.C_drew ?_))); (case side2 => exact HC0_0.out); (case side3 => repeat (first | exact (Kd.C_below HR1_0.out HB.out) | (with_reducible refine Kd.C_alloc ?_ _) | (with_reducible refine Kd.C_drewN ?_ _) | (with_reducible refine Kd.C_drew ?_))); (case side4 => exact HC1_0.out); rintro e w' ⟨rfl, ⟨nd, rfl⟩⟩; refine ⟨_, rfl, ?_⟩))
  go_ret
  exact ⟨by first | rfl | (simp [errW_none, errW_some] <;> rfl) | (simp [*, errW_none, errW_some] <;> rfl), by repeat (first | (with_reducible first | exact HB.out | apply below_alloc | apply pw_below_drewN | apply below_drew1 | refine below_set ?_ GE231001.out | refine below_set ?_ GE231002.out) | exact HB.out)⟩
 subst c4
 have H1 : ((laws_eqSum.f k a0_1 l0_2 a1_1 l1_2).bind fun t231004 => (if t231004 = true then ((laws_eqWeb.f k l0_3 l0_4 l1_3 l1_4).bind fun t231005 => (if t231005 = true then (some true) else (some false))) else (some false))) = some r := by rw [if_pos rfl] at H; exact H
 clear H
 have H := H1
 clear H1
 replace H := Option.bind_eq_some_iff.mp H
 obtain ⟨t231004, A50, H⟩ := H
 replace H : (if t231004 = true then ((laws_eqWeb.f k l0_3 l0_4 l1_3 l1_4).bind fun t231005 => (if t231005 = true then (some true) else (some false))) else (some false)) = some r := H
 have A5 := Aside0.mk A50
 clear A50
 by_cases c6 : t231004 = true
 rotate_left
 ·replace c6 := Bool.eq_false_iff.mpr c6
  subst c6
  have H1 : (some false) = some r := by rw [if_neg (show ¬ (false = true) by decide)] at H; exact H
  clear H
  have H := H1
  clear H1
  obtain rfl := Option.some.inj H
  go_enter Try.func23, Try.ntmps23
  go_wp2_with (first | ((with_reducible refine gate_dst (N := 2) rfl ?_); refine box_event ?hg (N := 2) ?hd (cs := #[.slice A0_0 l0_0.length c0_0, .int .i64 a0_1, .slice A0_2 l0_2.length c0_2, .slice A0_3 l0_3.length c0_3, .slice A0_4 l0_4.length c0_4]) (t := 48) ?hr ?_; (case hd => rfl); (case hg => rfl); (case hr => first | (go_simp; done) | (go_simp; rfl)); intro gb231001 hg w27 hbox hb; have n0_ := Aside0.mk (below_step (by repeat (first | (with_reducible first | exact HB.out | apply below_alloc | apply pw_below_drewN | apply below_drew1) | exact HB.out)) hb); have n1_ := Aside0.mk (hbox); have n2_ := Aside0.mk ((by rw [hg]; exact (below_size (by repeat (first | (with_reducible first | exact HB.out | apply below_alloc | apply pw_below_drewN | apply below_drew1) | exact HB.out))) : w.heap.size ≤ gb231001)); have n3_ := Aside0.mk ((by rw [hg]; exact (below_size (by repeat (first | (with_reducible first | exact HB.out | apply below_alloc | apply pw_below_drewN | apply below_drew1) | exact HB.out))) : w.heap.size ≤ gb231001)); clear HB; have HB := n0_; have BK231001 := n1_; have GW231001 := n2_; have GE231001 := n3_; clear n0_ n1_ n2_ n3_; clear hb hbox hg) | ((with_reducible refine gate_dst (N := 3) rfl ?_); refine box_event ?hg (N := 3) ?hd (cs := #[.slice A1_0 l1_0.length c1_0, .int .i64 a1_1, .slice A1_2 l1_2.length c1_2, .slice A1_3 l1_3.length c1_3, .slice A1_4 l1_4.length c1_4]) (t := 48) ?hr ?_; (case hd => rfl); (case hg => rfl); (case hr => first | (go_simp; done) | (go_simp; rfl)); intro gb231002 hg w28 hbox hb; have n0_ := Aside0.mk (blk_below (g := gb231001) (o := .cells #[.slice A0_0 l0_0.length c0_0, .int .i64 a0_1, .slice A0_2 l0_2.length c0_2, .slice A0_3 l0_3.length c0_3, .slice A0_4 l0_4.length c0_4] 48 (0, 0)) (by (with_reducible repeat (first | refine blk_drewN ?_ _ | refine blk_drew ?_ | refine blk_alloc ?_ _)); exact BK231001.out) hb); have n1_ := Aside0.mk (below_step (by repeat (first | (with_reducible first | exact HB.out | apply below_alloc | apply pw_below_drewN | apply below_drew1 | refine below_set ?_ GE231001.out) | exact HB.out)) hb); have n2_ := Aside0.mk (hbox); have n3_ := Aside0.mk ((by rw [hg]; exact (below_size (by repeat (first | (with_reducible first | exact HB.out | apply below_alloc | apply pw_below_drewN | apply below_drew1 | refine below_set ?_ GE231001.out) | exact HB.out))) : w.heap.size ≤ gb231002)); have n4_ := Aside0.mk ((by rw [hg]; exact (below_size (by repeat (first | (with_reducible first | exact HB.out | apply below_alloc | apply pw_below_drewN | apply below_drew1 | refine below_set ?_ GE231001.out) | exact HB.out))) : w.heap.size ≤ gb231002)); have n5_ := Aside0.mk ((by rw [hg]; exact Nat.ne_of_lt (blk_lt (g := gb231001) (o := .cells #[.slice A0_0 l0_0.length c0_0, .int .i64 a0_1, .slice A0_2 l0_2.length c0_2, .slice A0_3 l0_3.length c0_3, .slice A0_4 l0_4.length c0_4] 48 (0, 0)) (by (with_reducible repeat (first | refine blk_drewN ?_ _ | refine blk_drew ?_ | refine blk_alloc ?_ _)); exact BK231001.out)) : gb231001 ≠ gb231002)); have n6_ := Aside0.mk ((by rw [hg]; exact Nat.ne_of_gt (blk_lt (g := gb231001) (o := .cells #[.slice A0_0 l0_0.length c0_0, .int .i64 a0_1, .slice A0_2 l0_2.length c0_2, .slice A0_3 l0_3.length c0_3, .slice A0_4 l0_4.length c0_4] 48 (0, 0)) (by (with_reducible repeat (first | refine blk_drewN ?_ _ | refine blk_drew ?_ | refine blk_alloc ?_ _)); exact BK231001.out)) : gb231002 ≠ gb231001)); clear BK231001; clear HB; have BK231001 := n0_; have HB := n1_; have BK231002 := n2_; have GW231002 := n3_; have GE231002 := n4_; have NB231001_231002 := n5_; have NB231002_231001 := n6_; clear n0_ n1_ n2_ n3_ n4_ n5_ n6_; clear hb hbox hg; have hnb29 := NB231001_231002.out; have hnc29 := NB231002_231001.out; have hcz30_0 : w28.cell? ⟨gb231001, 0, none⟩ = some (.slice A0_0 l0_0.length c0_0) := (blk_cell BK231001.out 0).trans rfl; have hcz30_1 : w28.cell? ⟨gb231001, 1, none⟩ = some (.int .i64 a0_1) := (blk_cell BK231001.out 1).trans rfl; have hcz30_2 : w28.cell? ⟨gb231001, 2, none⟩ = some (.slice A0_2 l0_2.length c0_2) := (blk_cell BK231001.out 2).trans rfl; have hcz30_3 : w28.cell? ⟨gb231001, 3, none⟩ = some (.slice A0_3 l0_3.length c0_3) := (blk_cell BK231001.out 3).trans rfl; have hcz30_4 : w28.cell? ⟨gb231001, 4, none⟩ = some (.slice A0_4 l0_4.length c0_4) := (blk_cell BK231001.out 4).trans rfl; have hfz30_0 := blk_frozen BK231001.out 0; have hfz30_1 := blk_frozen BK231001.out 1; have hfz30_2 := blk_frozen BK231001.out 2; have hfz30_3 := blk_frozen BK231001.out 3; have hfz30_4 := blk_frozen BK231001.out 4; have hcz31_0 : w28.cell? ⟨gb231002, 0, none⟩ = some (.slice A1_0 l1_0.length c1_0) := (blk_cell BK231002.out 0).trans rfl; have hcz31_1 : w28.cell? ⟨gb231002, 1, none⟩ = some (.int .i64 a1_1) := (blk_cell BK231002.out 1).trans rfl; have hcz31_2 : w28.cell? ⟨gb231002, 2, none⟩ = some (.slice A1_2 l1_2.length c1_2) := (blk_cell BK231002.out 2).trans rfl; have hcz31_3 : w28.cell? ⟨gb231002, 3, none⟩ = some (.slice A1_3 l1_3.length c1_3) := (blk_cell BK231002.out 3).trans rfl; have hcz31_4 : w28.cell? ⟨gb231002, 4, none⟩ = some (.slice A1_4 l1_4.length c1_4) := (blk_cell BK231002.out 4).trans rfl; have hfz31_0 := blk_frozen BK231002.out 0; have hfz31_1 := blk_frozen BK231002.out 1; have hfz31_2 := blk_frozen BK231002.out 2; have hfz31_3 := blk_frozen BK231002.out 3; have hfz31_4 := blk_frozen BK231002.out 4) | ((with_reducible refine gate_callee (f := 27) rfl ?_); refine goesL_ (some 9) rfl rfl Try.func27 (by kernel_rfl) rfl #[.slice A0_0 l0_0.length c0_0, .slice A1_0 l1_0.length c1_0] rfl (by (try simp only [List.map_toArray, List.map_cons, List.map_nil]); first | done | rfl | (simp only [List.length_drop, List.length_take]; rfl)) ?_; (with_reducible refine (laws_eqInt64S.calls k _ _ l0_0 _ _ l1_0 true _ ?side1 ?side2 ?side3 ?side4 A3.out).mono ?_); (case side1 => repeat (first | exact (Kd.C_below HR0_0.out HB.out) | (with_reducible refine Kd.C_alloc ?_ _) | (with_reducible refine Kd.C_drewN ?_ _) | (with_reducible refine Kd.C_drew ?_))); (case side2 => exact HC0_0.out); (case side3 => repeat (first | exact (Kd.C_below HR1_0.out HB.out) | (with_reducible refine Kd.C_alloc ?_ _) | (with_reducible refine Kd.C_drewN ?_ _) | (with_reducible refine Kd.C_drew ?_))); (case side4 => exact HC1_0.out); rintro e w' ⟨rfl, ⟨nd, rfl⟩⟩; refine ⟨_, rfl, ?_⟩) | ((with_reducible refine gate_callee (f := 36) rfl ?_); refine goesL_ (some 15) rfl rfl Try.func36 (by kernel_rfl) rfl #[.agg #[.int .i64 a0_1, .slice A0_2 l0_2.length c0_2], .agg #[.int .i64 a1_1, .slice A1_2 l1_2.length c1_2]] rfl (by (try simp only [List.map_toArray, List.map_cons, List.map_nil]); first | done | rfl | (simp only [List.length_drop, List.length_take]; rfl)) ?_; (with_reducible refine (laws_eqSum.calls k a0_1 _ _ l0_2 a1_1 _ _ l1_2 false _ ?side1 ?side2 ?side3 ?side4 A5.out).mono ?_); (case side1 => repeat (first | exact (Kd.C_below HR0_2.out (by repeat (first | (with_reducible first | exact HB.out | apply below_alloc | apply pw_below_drewN | apply below_drew1 | refine below_set ?_ GE231001.out | refine below_set ?_ GE231002.out) | exact HB.out))) | (with_reducible refine Kd.C_alloc ?_ _) | (with_reducible refine Kd.C_drewN ?_ _) | (with_reducible refine Kd.C_drew ?_))); (case side2 => exact HC0_2.out); (case side3 => repeat (first | exact (Kd.C_below HR1_2.out (by repeat (first | (with_reducible first | exact HB.out | apply below_alloc | apply pw_below_drewN | apply below_drew1 | refine below_set ?_ GE231001.out | refine below_set ?_ GE231002.out) | exact HB.out))) | (with_reducible refine Kd.C_alloc ?_ _) | (with_reducible refine Kd.C_drewN ?_ _) | (with_reducible refine Kd.C_drew ?_))); (case side4 => exact HC1_2.out); rintro e w32 ⟨rfl, hb⟩; refine ⟨_, rfl, ?_⟩; have n0_ := Aside0.mk (blk_below (g := gb231001) (o := .cells #[.slice A0_0 l0_0.length c0_0, .int .i64 a0_1, .slice A0_2 l0_2.length c0_2, .slice A0_3 l0_3.length c0_3, .slice A0_4 l0_4.length c0_4] 48 (0, 0)) (by (with_reducible repeat (first | refine blk_drewN ?_ _ | refine blk_drew ?_ | refine blk_alloc ?_ _)); exact BK231001.out) hb); have n1_ := Aside0.mk (blk_below (g := gb231002) (o := .cells #[.slice A1_0 l1_0.length c1_0, .int .i64 a1_1, .slice A1_2 l1_2.length c1_2, .slice A1_3 l1_3.length c1_3, .slice A1_4 l1_4.length c1_4] 48 (0, 0)) (by (with_reducible repeat (first | refine blk_drewN ?_ _ | refine blk_drew ?_ | refine blk_alloc ?_ _)); exact BK231002.out) hb); have n2_ := Aside0.mk (below_step (by repeat (first | (with_reducible first | exact HB.out | apply below_alloc | apply pw_below_drewN | apply below_drew1 | refine below_set ?_ GE231001.out | refine below_set ?_ GE231002.out) | exact HB.out)) hb); clear BK231001; clear BK231002; clear HB; have BK231001 := n0_; have BK231002 := n1_; have HB := n2_; clear n0_ n1_ n2_; (try clear hb); (try clear hb2); (try clear hk); (try clear hi)))
  go_ret
  exact ⟨by first | rfl | (simp [errW_none, errW_some] <;> rfl) | (simp [*, errW_none, errW_some] <;> rfl), by repeat (first | (with_reducible first | exact HB.out | apply below_alloc | apply pw_below_drewN | apply below_drew1 | refine below_set ?_ GE231001.out | refine below_set ?_ GE231002.out) | exact HB.out)⟩
 subst c6
 have H1 : ((laws_eqWeb.f k l0_3 l0_4 l1_3 l1_4).bind fun t231005 => (if t231005 = true then (some true) else (some false))) = some r := by rw [if_pos rfl] at H; exact H
 clear H
 have H := H1
 clear H1
 replace H := Option.bind_eq_some_iff.mp H
 obtain ⟨t231005, A70, H⟩ := H
 replace H : (if t231005 = true then (some true) else (some false)) = some r := H
 have A7 := Aside0.mk A70
 clear A70
 by_cases c8 : t231005 = true
 ·subst c8
  have H1 : (some true) = some r := by rw [if_pos rfl] at H; exact H
  clear H
  have H := H1
  clear H1
  obtain rfl := Option.some.inj H
  go_enter Try.func23, Try.ntmps23
  go_wp2_with (first | ((with_reducible refine gate_dst (N := 2) rfl ?_); refine box_event ?hg (N := 2) ?hd (cs := #[.slice A0_0 l0_0.length c0_0, .int .i64 a0_1, .slice A0_2 l0_2.length c0_2, .slice A0_3 l0_3.length c0_3, .slice A0_4 l0_4.length c0_4]) (t := 48) ?hr ?_; (case hd => rfl); (case hg => rfl); (case hr => first | (go_simp; done) | (go_simp; rfl)); intro gb231001 hg w9 hbox hb; have n0_ := Aside0.mk (below_step (by repeat (first | (with_reducible first | exact HB.out | apply below_alloc | apply pw_below_drewN | apply below_drew1) | exact HB.out)) hb); have n1_ := Aside0.mk (hbox); have n2_ := Aside0.mk ((by rw [hg]; exact (below_size (by repeat (first | (with_reducible first | exact HB.out | apply below_alloc | apply pw_below_drewN | apply below_drew1) | exact HB.out))) : w.heap.size ≤ gb231001)); have n3_ := Aside0.mk ((by rw [hg]; exact (below_size (by repeat (first | (with_reducible first | exact HB.out | apply below_alloc | apply pw_below_drewN | apply below_drew1) | exact HB.out))) : w.heap.size ≤ gb231001)); clear HB; have HB := n0_; have BK231001 := n1_; have GW231001 := n2_; have GE231001 := n3_; clear n0_ n1_ n2_ n3_; clear hb hbox hg) | ((with_reducible refine gate_dst (N := 3) rfl ?_); refine box_event ?hg (N := 3) ?hd (cs := #[.slice A1_0 l1_0.length c1_0, .int .i64 a1_1, .slice A1_2 l1_2.length c1_2, .slice A1_3 l1_3.length c1_3, .slice A1_4 l1_4.length c1_4]) (t := 48) ?hr ?_; (case hd => rfl); (case hg => rfl); (case hr => first | (go_simp; done) | (go_simp; rfl)); intro gb231002 hg w10 hbox hb; have n0_ := Aside0.mk (blk_below (g := gb231001) (o := .cells #[.slice A0_0 l0_0.length c0_0, .int .i64 a0_1, .slice A0_2 l0_2.length c0_2, .slice A0_3 l0_3.length c0_3, .slice A0_4 l0_4.length c0_4] 48 (0, 0)) (by (with_reducible repeat (first | refine blk_drewN ?_ _ | refine blk_drew ?_ | refine blk_alloc ?_ _)); exact BK231001.out) hb); have n1_ := Aside0.mk (below_step (by repeat (first | (with_reducible first | exact HB.out | apply below_alloc | apply pw_below_drewN | apply below_drew1 | refine below_set ?_ GE231001.out) | exact HB.out)) hb); have n2_ := Aside0.mk (hbox); have n3_ := Aside0.mk ((by rw [hg]; exact (below_size (by repeat (first | (with_reducible first | exact HB.out | apply below_alloc | apply pw_below_drewN | apply below_drew1 | refine below_set ?_ GE231001.out) | exact HB.out))) : w.heap.size ≤ gb231002)); have n4_ := Aside0.mk ((by rw [hg]; exact (below_size (by repeat (first | (with_reducible first | exact HB.out | apply below_alloc | apply pw_below_drewN | apply below_drew1 | refine below_set ?_ GE231001.out) | exact HB.out))) : w.heap.size ≤ gb231002)); have n5_ := Aside0.mk ((by rw [hg]; exact Nat.ne_of_lt (blk_lt (g := gb231001) (o := .cells #[.slice A0_0 l0_0.length c0_0, .int .i64 a0_1, .slice A0_2 l0_2.length c0_2, .slice A0_3 l0_3.length c0_3, .slice A0_4 l0_4.length c0_4] 48 (0, 0)) (by (with_reducible repeat (first | refine blk_drewN ?_ _ | refine blk_drew ?_ | refine blk_alloc ?_ _)); exact BK231001.out)) : gb231001 ≠ gb231002)); have n6_ := Aside0.mk ((by rw [hg]; exact Nat.ne_of_gt (blk_lt (g := gb231001) (o := .cells #[.slice A0_0 l0_0.length c0_0, .int .i64 a0_1, .slice A0_2 l0_2.length c0_2, .slice A0_3 l0_3.length c0_3, .slice A0_4 l0_4.length c0_4] 48 (0, 0)) (by (with_reducible repeat (first | refine blk_drewN ?_ _ | refine blk_drew ?_ | refine blk_alloc ?_ _)); exact BK231001.out)) : gb231002 ≠ gb231001)); clear BK231001; clear HB; have BK231001 := n0_; have HB := n1_; have BK231002 := n2_; have GW231002 := n3_; have GE231002 := n4_; have NB231001_231002 := n5_; have NB231002_231001 := n6_; clear n0_ n1_ n2_ n3_ n4_ n5_ n6_; clear hb hbox hg; have hnb11 := NB231001_231002.out; have hnc11 := NB231002_231001.out; have hcz12_0 : w10.cell? ⟨gb231001, 0, none⟩ = some (.slice A0_0 l0_0.length c0_0) := (blk_cell BK231001.out 0).trans rfl; have hcz12_1 : w10.cell? ⟨gb231001, 1, none⟩ = some (.int .i64 a0_1) := (blk_cell BK231001.out 1).trans rfl; have hcz12_2 : w10.cell? ⟨gb231001, 2, none⟩ = some (.slice A0_2 l0_2.length c0_2) := (blk_cell BK231001.out 2).trans rfl; have hcz12_3 : w10.cell? ⟨gb231001, 3, none⟩ = some (.slice A0_3 l0_3.length c0_3) := (blk_cell BK231001.out 3).trans rfl; have hcz12_4 : w10.cell? ⟨gb231001, 4, none⟩ = some (.slice A0_4 l0_4.length c0_4) := (blk_cell BK231001.out 4).trans rfl; have hfz12_0 := blk_frozen BK231001.out 0; have hfz12_1 := blk_frozen BK231001.out 1; have hfz12_2 := blk_frozen BK231001.out 2; have hfz12_3 := blk_frozen BK231001.out 3; have hfz12_4 := blk_frozen BK231001.out 4; have hcz13_0 : w10.cell? ⟨gb231002, 0, none⟩ = some (.slice A1_0 l1_0.length c1_0) := (blk_cell BK231002.out 0).trans rfl; have hcz13_1 : w10.cell? ⟨gb231002, 1, none⟩ = some (.int .i64 a1_1) := (blk_cell BK231002.out 1).trans rfl; have hcz13_2 : w10.cell? ⟨gb231002, 2, none⟩ = some (.slice A1_2 l1_2.length c1_2) := (blk_cell BK231002.out 2).trans rfl; have hcz13_3 : w10.cell? ⟨gb231002, 3, none⟩ = some (.slice A1_3 l1_3.length c1_3) := (blk_cell BK231002.out 3).trans rfl; have hcz13_4 : w10.cell? ⟨gb231002, 4, none⟩ = some (.slice A1_4 l1_4.length c1_4) := (blk_cell BK231002.out 4).trans rfl; have hfz13_0 := blk_frozen BK231002.out 0; have hfz13_1 := blk_frozen BK231002.out 1; have hfz13_2 := blk_frozen BK231002.out 2; have hfz13_3 := blk_frozen BK231002.out 3; have hfz13_4 := blk_frozen BK231002.out 4) | ((with_reducible refine gate_callee (f := 27) rfl ?_); refine goesL_ (some 9) rfl rfl Try.func27 (by kernel_rfl) rfl #[.slice A0_0 l0_0.length c0_0, .slice A1_0 l1_0.length c1_0] rfl (by (try simp only [List.map_toArray, List.map_cons, List.map_nil]); first | done | rfl | (simp only [List.length_drop, List.length_take]; rfl)) ?_; (with_reducible refine (laws_eqInt64S.calls k _ _ l0_0 _ _ l1_0 true _ ?side1 ?side2 ?side3 ?side4 A3.out).mono ?_); (case side1 => repeat (first | exact (Kd.C_below HR0_0.out HB.out) | (with_reducible refine Kd.C_alloc ?_ _) | (with_reducible refine Kd.C_drewN ?_ _) | (with_reducible refine Kd.C_drew ?_))); (case side2 => exact HC0_0.out); (case side3 => repeat (first | exact (Kd.C_below HR1_0.out HB.out) | (with_reducible refine Kd.C_alloc ?_ _) | (with_reducible refine Kd.C_drewN ?_ _) | (with_reducible refine Kd.C_drew ?_))); (case side4 => exact HC1_0.out); rintro e w' ⟨rfl, ⟨nd, rfl⟩⟩; refine ⟨_, rfl, ?_⟩) | ((with_reducible refine gate_callee (f := 36) rfl ?_); refine goesL_ (some 15) rfl rfl Try.func36 (by kernel_rfl) rfl #[.agg #[.int .i64 a0_1, .slice A0_2 l0_2.length c0_2], .agg #[.int .i64 a1_1, .slice A1_2 l1_2.length c1_2]] rfl (by (try simp only [List.map_toArray, List.map_cons, List.map_nil]); first | done | rfl | (simp only [List.length_drop, List.length_take]; rfl)) ?_; (with_reducible refine (laws_eqSum.calls k a0_1 _ _ l0_2 a1_1 _ _ l1_2 true _ ?side1 ?side2 ?side3 ?side4 A5.out).mono ?_); (case side1 => repeat (first | exact (Kd.C_below HR0_2.out (by repeat (first | (with_reducible first | exact HB.out | apply below_alloc | apply pw_below_drewN | apply below_drew1 | refine below_set ?_ GE231001.out | refine below_set ?_ GE231002.out) | exact HB.out))) | (with_reducible refine Kd.C_alloc ?_ _) | (with_reducible refine Kd.C_drewN ?_ _) | (with_reducible refine Kd.C_drew ?_))); (case side2 => exact HC0_2.out); (case side3 => repeat (first | exact (Kd.C_below HR1_2.out (by repeat (first | (with_reducible first | exact HB.out | apply below_alloc | apply pw_below_drewN | apply below_drew1 | refine below_set ?_ GE231001.out | refine below_set ?_ GE231002.out) | exact HB.out))) | (with_reducible refine Kd.C_alloc ?_ _) | (with_reducible refine Kd.C_drewN ?_ _) | (with_reducible refine Kd.C_drew ?_))); (case side4 => exact HC1_2.out); rintro e w14 ⟨rfl, hb⟩; refine ⟨_, rfl, ?_⟩; have n0_ := Aside0.mk (blk_below (g := gb231001) (o := .cells #[.slice A0_0 l0_0.length c0_0, .int .i64 a0_1, .slice A0_2 l0_2.length c0_2, .slice A0_3 l0_3.length c0_3, .slice A0_4 l0_4.length c0_4] 48 (0, 0)) (by (with_reducible repeat (first | refine blk_drewN ?_ _ | refine blk_drew ?_ | refine blk_alloc ?_ _)); exact BK231001.out) hb); have n1_ := Aside0.mk (blk_below (g := gb231002) (o := .cells #[.slice A1_0 l1_0.length c1_0, .int .i64 a1_1, .slice A1_2 l1_2.length c1_2, .slice A1_3 l1_3.length c1_3, .slice A1_4 l1_4.length c1_4] 48 (0, 0)) (by (with_reducible repeat (first | refine blk_drewN ?_ _ | refine blk_drew ?_ | refine blk_alloc ?_ _)); exact BK231002.out) hb); have n2_ := Aside0.mk (below_step (by repeat (first | (with_reducible first | exact HB.out | apply below_alloc | apply pw_below_drewN | apply below_drew1 | refine below_set ?_ GE231001.out | refine below_set ?_ GE231002.out) | exact HB.out)) hb); clear BK231001; clear BK231002; clear HB; have BK231001 := n0_; have BK231002 := n1_; have HB := n2_; clear n0_ n1_ n2_; (try clear hb); (try clear hb2); (try clear hk); (try clear hi); have hcz15_0 : w14.cell? ⟨gb231001, 0, none⟩ = some (.slice A0_0 l0_0.length c0_0) := (blk_cell BK231001.out 0).trans rfl; have hcz15_1 : w14.cell? ⟨gb231001, 1, none⟩ = some (.int .i64 a0_1) := (blk_cell BK231001.out 1).trans rfl; have hcz15_2 : w14.cell? ⟨gb231001, 2, none⟩ = some (.slice A0_2 l0_2.length c0_2) := (blk_cell BK231001.out 2).trans rfl; have hcz15_3 : w14.cell? ⟨gb231001, 3, none⟩ = some (.slice A0_3 l0_3.length c0_3) := (blk_cell BK231001.out 3).trans rfl; have hcz15_4 : w14.cell? ⟨gb231001, 4, none⟩ = some (.slice A0_4 l0_4.length c0_4) := (blk_cell BK231001.out 4).trans rfl; have hfz15_0 := blk_frozen BK231001.out 0; have hfz15_1 := blk_frozen BK231001.out 1; have hfz15_2 := blk_frozen BK231001.out 2; have hfz15_3 := blk_frozen BK231001.out 3; have hfz15_4 := blk_frozen BK231001.out 4; have hcz16_0 : w14.cell? ⟨gb231002, 0, none⟩ = some (.slice A1_0 l1_0.length c1_0) := (blk_cell BK231002.out 0).trans rfl; have hcz16_1 : w14.cell? ⟨gb231002, 1, none⟩ = some (.int .i64 a1_1) := (blk_cell BK231002.out 1).trans rfl; have hcz16_2 : w14.cell? ⟨gb231002, 2, none⟩ = some (.slice A1_2 l1_2.length c1_2) := (blk_cell BK231002.out 2).trans rfl; have hcz16_3 : w14.cell? ⟨gb231002, 3, none⟩ = some (.slice A1_3 l1_3.length c1_3) := (blk_cell BK231002.out 3).trans rfl; have hcz16_4 : w14.cell? ⟨gb231002, 4, none⟩ = some (.slice A1_4 l1_4.length c1_4) := (blk_cell BK231002.out 4).trans rfl; have hfz16_0 := blk_frozen BK231002.out 0; have hfz16_1 := blk_frozen BK231002.out 1; have hfz16_2 := blk_frozen BK231002.out 2; have hfz16_3 := blk_frozen BK231002.out 3; have hfz16_4 := blk_frozen BK231002.out 4) | ((with_reducible refine gate_callee (f := 15) rfl ?_); refine goesL_ (some 21) rfl rfl Try.func15 (by kernel_rfl) rfl #[.agg #[.slice A0_3 l0_3.length c0_3, .slice A0_4 l0_4.length c0_4], .agg #[.slice A1_3 l1_3.length c1_3, .slice A1_4 l1_4.length c1_4]] rfl (by (try simp only [List.map_toArray, List.map_cons, List.map_nil]); first | done | rfl | (simp only [List.length_drop, List.length_take]; rfl)) ?_; (with_reducible refine (laws_eqWeb.calls k _ _ l0_3 _ _ l0_4 _ _ l1_3 _ _ l1_4 true _ ?side1 ?side2 ?side3 ?side4 ?side5 ?side6 ?side7 ?side8 A7.out).mono ?_); (case side1 => repeat (first | exact (Kd.C_below HR0_3.out HB.out) | (with_reducible refine Kd.C_alloc ?_ _) | (with_reducible refine Kd.C_drewN ?_ _) | (with_reducible refine Kd.C_drew ?_))); (case side2 => exact HC0_3.out); (case side3 => repeat (first | exact (Kd.C_below HR0_4.out HB.out) | (with_reducible refine Kd.C_alloc ?_ _) | (with_reducible refine Kd.C_drewN ?_ _) | (with_reducible refine Kd.C_drew ?_))); (case side4 => exact HC0_4.out); (case side5 => repeat (first | exact (Kd.C_below HR1_3.out HB.out) | (with_reducible refine Kd.C_alloc ?_ _) | (with_reducible refine Kd.C_drewN ?_ _) | (with_reducible refine Kd.C_drew ?_))); (case side6 => exact HC1_3.out); (case side7 => repeat (first | exact (Kd.C_below HR1_4.out HB.out) | (with_reducible refine Kd.C_alloc ?_ _) | (with_reducible refine Kd.C_drewN ?_ _) | (with_reducible refine Kd.C_drew ?_))); (case side8 => exact HC1_4.out); rintro e w17 ⟨rfl, hb⟩; refine ⟨_, rfl, ?_⟩; have n0_ := Aside0.mk (blk_below (g := gb231001) (o := .cells #[.slice A0_0 l0_0.length c0_0, .int .i64 a0_1, .slice A0_2 l0_2.length c0_2, .slice A0_3 l0_3.length c0_3, .slice A0_4 l0_4.length c0_4] 48 (0, 0)) (by (with_reducible repeat (first | refine blk_drewN ?_ _ | refine blk_drew ?_ | refine blk_alloc ?_ _)); exact BK231001.out) hb); have n1_ := Aside0.mk (blk_below (g := gb231002) (o := .cells #[.slice A1_0 l1_0.length c1_0, .int .i64 a1_1, .slice A1_2 l1_2.length c1_2, .slice A1_3 l1_3.length c1_3, .slice A1_4 l1_4.length c1_4] 48 (0, 0)) (by (with_reducible repeat (first | refine blk_drewN ?_ _ | refine blk_drew ?_ | refine blk_alloc ?_ _)); exact BK231002.out) hb); have n2_ := Aside0.mk (below_step (by repeat (first | (with_reducible first | exact HB.out | apply below_alloc | apply pw_below_drewN | apply below_drew1 | refine below_set ?_ GE231001.out | refine below_set ?_ GE231002.out) | exact HB.out)) hb); clear BK231001; clear BK231002; clear HB; have BK231001 := n0_; have BK231002 := n1_; have HB := n2_; clear n0_ n1_ n2_; (try clear hb); (try clear hb2); (try clear hk); (try clear hi)))
  go_ret
  exact ⟨by first | rfl | (simp [errW_none, errW_some] <;> rfl) | (simp [*, errW_none, errW_some] <;> rfl), by repeat (first | (with_reducible first | exact HB.out | apply below_alloc | apply pw_below_drewN | apply below_drew1 | refine below_set ?_ GE231001.out | refine below_set ?_ GE231002.out) | exact HB.out)⟩
 replace c8 := Bool.eq_false_iff.mpr c8
 subst c8
 have H1 : (some false) = some r := by rw [if_neg (show ¬ (false = true) by decide)] at H; exact H
 clear H
 have H := H1
 clear H1
 obtain rfl := Option.some.inj H
 go_enter Try.func23, Try.ntmps23
 go_wp2_with (first | ((with_reducible refine gate_dst (N := 2) rfl ?_); refine box_event ?hg (N := 2) ?hd (cs := #[.slice A0_0 l0_0.length c0_0, .int .i64 a0_1, .slice A0_2 l0_2.length c0_2, .slice A0_3 l0_3.length c0_3, .slice A0_4 l0_4.length c0_4]) (t := 48) ?hr ?_; (case hd => rfl); (case hg => rfl); (case hr => first | (go_simp; done) | (go_simp; rfl)); intro gb231001 hg w18 hbox hb; have n0_ := Aside0.mk (below_step (by repeat (first | (with_reducible first | exact HB.out | apply below_alloc | apply pw_below_drewN | apply below_drew1) | exact HB.out)) hb); have n1_ := Aside0.mk (hbox); have n2_ := Aside0.mk ((by rw [hg]; exact (below_size (by repeat (first | (with_reducible first | exact HB.out | apply below_alloc | apply pw_below_drewN | apply below_drew1) | exact HB.out))) : w.heap.size ≤ gb231001)); have n3_ := Aside0.mk ((by rw [hg]; exact (below_size (by repeat (first | (with_reducible first | exact HB.out | apply below_alloc | apply pw_below_drewN | apply below_drew1) | exact HB.out))) : w.heap.size ≤ gb231001)); clear HB; have HB := n0_; have BK231001 := n1_; have GW231001 := n2_; have GE231001 := n3_; clear n0_ n1_ n2_ n3_; clear hb hbox hg) | ((with_reducible refine gate_dst (N := 3) rfl ?_); refine box_event ?hg (N := 3) ?hd (cs := #[.slice A1_0 l1_0.length c1_0, .int .i64 a1_1, .slice A1_2 l1_2.length c1_2, .slice A1_3 l1_3.length c1_3, .slice A1_4 l1_4.length c1_4]) (t := 48) ?hr ?_; (case hd => rfl); (case hg => rfl); (case hr => first | (go_simp; done) | (go_simp; rfl)); intro gb231002 hg w19 hbox hb; have n0_ := Aside0.mk (blk_below (g := gb231001) (o := .cells #[.slice A0_0 l0_0.length c0_0, .int .i64 a0_1, .slice A0_2 l0_2.length c0_2, .slice A0_3 l0_3.length c0_3, .slice A0_4 l0_4.length c0_4] 48 (0, 0)) (by (with_reducible repeat (first | refine blk_drewN ?_ _ | refine blk_drew ?_ | refine blk_alloc ?_ _)); exact BK231001.out) hb); have n1_ := Aside0.mk (below_step (by repeat (first | (with_reducible first | exact HB.out | apply below_alloc | apply pw_below_drewN | apply below_drew1 | refine below_set ?_ GE231001.out) | exact HB.out)) hb); have n2_ := Aside0.mk (hbox); have n3_ := Aside0.mk ((by rw [hg]; exact (below_size (by repeat (first | (with_reducible first | exact HB.out | apply below_alloc | apply pw_below_drewN | apply below_drew1 | refine below_set ?_ GE231001.out) | exact HB.out))) : w.heap.size ≤ gb231002)); have n4_ := Aside0.mk ((by rw [hg]; exact (below_size (by repeat (first | (with_reducible first | exact HB.out | apply below_alloc | apply pw_below_drewN | apply below_drew1 | refine below_set ?_ GE231001.out) | exact HB.out))) : w.heap.size ≤ gb231002)); have n5_ := Aside0.mk ((by rw [hg]; exact Nat.ne_of_lt (blk_lt (g := gb231001) (o := .cells #[.slice A0_0 l0_0.length c0_0, .int .i64 a0_1, .slice A0_2 l0_2.length c0_2, .slice A0_3 l0_3.length c0_3, .slice A0_4 l0_4.length c0_4] 48 (0, 0)) (by (with_reducible repeat (first | refine blk_drewN ?_ _ | refine blk_drew ?_ | refine blk_alloc ?_ _)); exact BK231001.out)) : gb231001 ≠ gb231002)); have n6_ := Aside0.mk ((by rw [hg]; exact Nat.ne_of_gt (blk_lt (g := gb231001) (o := .cells #[.slice A0_0 l0_0.length c0_0, .int .i64 a0_1, .slice A0_2 l0_2.length c0_2, .slice A0_3 l0_3.length c0_3, .slice A0_4 l0_4.length c0_4] 48 (0, 0)) (by (with_reducible repeat (first | refine blk_drewN ?_ _ | refine blk_drew ?_ | refine blk_alloc ?_ _)); exact BK231001.out)) : gb231002 ≠ gb231001)); clear BK231001; clear HB; have BK231001 := n0_; have HB := n1_; have BK231002 := n2_; have GW231002 := n3_; have GE231002 := n4_; have NB231001_231002 := n5_; have NB231002_231001 := n6_; clear n0_ n1_ n2_ n3_ n4_ n5_ n6_; clear hb hbox hg; have hnb20 := NB231001_231002.out; have hnc20 := NB231002_231001.out; have hcz21_0 : w19.cell? ⟨gb231001, 0, none⟩ = some (.slice A0_0 l0_0.length c0_0) := (blk_cell BK231001.out 0).trans rfl; have hcz21_1 : w19.cell? ⟨gb231001, 1, none⟩ = some (.int .i64 a0_1) := (blk_cell BK231001.out 1).trans rfl; have hcz21_2 : w19.cell? ⟨gb231001, 2, none⟩ = some (.slice A0_2 l0_2.length c0_2) := (blk_cell BK231001.out 2).trans rfl; have hcz21_3 : w19.cell? ⟨gb231001, 3, none⟩ = some (.slice A0_3 l0_3.length c0_3) := (blk_cell BK231001.out 3).trans rfl; have hcz21_4 : w19.cell? ⟨gb231001, 4, none⟩ = some (.slice A0_4 l0_4.length c0_4) := (blk_cell BK231001.out 4).trans rfl; have hfz21_0 := blk_frozen BK231001.out 0; have hfz21_1 := blk_frozen BK231001.out 1; have hfz21_2 := blk_frozen BK231001.out 2; have hfz21_3 := blk_frozen BK231001.out 3; have hfz21_4 := blk_frozen BK231001.out 4; have hcz22_0 : w19.cell? ⟨gb231002, 0, none⟩ = some (.slice A1_0 l1_0.length c1_0) := (blk_cell BK231002.out 0).trans rfl; have hcz22_1 : w19.cell? ⟨gb231002, 1, none⟩ = some (.int .i64 a1_1) := (blk_cell BK231002.out 1).trans rfl; have hcz22_2 : w19.cell? ⟨gb231002, 2, none⟩ = some (.slice A1_2 l1_2.length c1_2) := (blk_cell BK231002.out 2).trans rfl; have hcz22_3 : w19.cell? ⟨gb231002, 3, none⟩ = some (.slice A1_3 l1_3.length c1_3) := (blk_cell BK231002.out 3).trans rfl; have hcz22_4 : w19.cell? ⟨gb231002, 4, none⟩ = some (.slice A1_4 l1_4.length c1_4) := (blk_cell BK231002.out 4).trans rfl; have hfz22_0 := blk_frozen BK231002.out 0; have hfz22_1 := blk_frozen BK231002.out 1; have hfz22_2 := blk_frozen BK231002.out 2; have hfz22_3 := blk_frozen BK231002.out 3; have hfz22_4 := blk_frozen BK231002.out 4) | ((with_reducible refine gate_callee (f := 27) rfl ?_); refine goesL_ (some 9) rfl rfl Try.func27 (by kernel_rfl) rfl #[.slice A0_0 l0_0.length c0_0, .slice A1_0 l1_0.length c1_0] rfl (by (try simp only [List.map_toArray, List.map_cons, List.map_nil]); first | done | rfl | (simp only [List.length_drop, List.length_take]; rfl)) ?_; (with_reducible refine (laws_eqInt64S.calls k _ _ l0_0 _ _ l1_0 true _ ?side1 ?side2 ?side3 ?side4 A3.out).mono ?_); (case side1 => repeat (first | exact (Kd.C_below HR0_0.out HB.out) | (with_reducible refine Kd.C_alloc ?_ _) | (with_reducible refine Kd.C_drewN ?_ _) | (with_reducible refine Kd.C_drew ?_))); (case side2 => exact HC0_0.out); (case side3 => repeat (first | exact (Kd.C_below HR1_0.out HB.out) | (with_reducible refine Kd.C_alloc ?_ _) | (with_reducible refine Kd.C_drewN ?_ _) | (with_reducible refine Kd.C_drew ?_))); (case side4 => exact HC1_0.out); rintro e w' ⟨rfl, ⟨nd, rfl⟩⟩; refine ⟨_, rfl, ?_⟩) | ((with_reducible refine gate_callee (f := 36) rfl ?_); refine goesL_ (some 15) rfl rfl Try.func36 (by kernel_rfl) rfl #[.agg #[.int .i64 a0_1, .slice A0_2 l0_2.length c0_2], .agg #[.int .i64 a1_1, .slice A1_2 l1_2.length c1_2]] rfl (by (try simp only [List.map_toArray, List.map_cons, List.map_nil]); first | done | rfl | (simp only [List.length_drop, List.length_take]; rfl)) ?_; (with_reducible refine (laws_eqSum.calls k a0_1 _ _ l0_2 a1_1 _ _ l1_2 true _ ?side1 ?side2 ?side3 ?side4 A5.out).mono ?_); (case side1 => repeat (first | exact (Kd.C_below HR0_2.out (by repeat (first | (with_reducible first | exact HB.out | apply below_alloc | apply pw_below_drewN | apply below_drew1 | refine below_set ?_ GE231001.out | refine below_set ?_ GE231002.out) | exact HB.out))) | (with_reducible refine Kd.C_alloc ?_ _) | (with_reducible refine Kd.C_drewN ?_ _) | (with_reducible refine Kd.C_drew ?_))); (case side2 => exact HC0_2.out); (case side3 => repeat (first | exact (Kd.C_below HR1_2.out (by repeat (first | (with_reducible first | exact HB.out | apply below_alloc | apply pw_below_drewN | apply below_drew1 | refine below_set ?_ GE231001.out | refine below_set ?_ GE231002.out) | exact HB.out))) | (with_reducible refine Kd.C_alloc ?_ _) | (with_reducible refine Kd.C_drewN ?_ _) | (with_reducible refine Kd.C_drew ?_))); (case side4 => exact HC1_2.out); rintro e w23 ⟨rfl, hb⟩; refine ⟨_, rfl, ?_⟩; have n0_ := Aside0.mk (blk_below (g := gb231001) (o := .cells #[.slice A0_0 l0_0.length c0_0, .int .i64 a0_1, .slice A0_2 l0_2.length c0_2, .slice A0_3 l0_3.length c0_3, .slice A0_4 l0_4.length c0_4] 48 (0, 0)) (by (with_reducible repeat (first | refine blk_drewN ?_ _ | refine blk_drew ?_ | refine blk_alloc ?_ _)); exact BK231001.out) hb); have n1_ := Aside0.mk (blk_below (g := gb231002) (o := .cells #[.slice A1_0 l1_0.length c1_0, .int .i64 a1_1, .slice A1_2 l1_2.length c1_2, .slice A1_3 l1_3.length c1_3, .slice A1_4 l1_4.length c1_4] 48 (0, 0)) (by (with_reducible repeat (first | refine blk_drewN ?_ _ | refine blk_drew ?_ | refine blk_alloc ?_ _)); exact BK231002.out) hb); have n2_ := Aside0.mk (below_step (by repeat (first | (with_reducible first | exact HB.out | apply below_alloc | apply pw_below_drewN | apply below_drew1 | refine below_set ?_ GE231001.out | refine below_set ?_ GE231002.out) | exact HB.out)) hb); clear BK231001; clear BK231002; clear HB; have BK231001 := n0_; have BK231002 := n1_; have HB := n2_; clear n0_ n1_ n2_; (try clear hb); (try clear hb2); (try clear hk); (try clear hi); have hcz24_0 : w23.cell? ⟨gb231001, 0, none⟩ = some (.slice A0_0 l0_0.length c0_0) := (blk_cell BK231001.out 0).trans rfl; have hcz24_1 : w23.cell? ⟨gb231001, 1, none⟩ = some (.int .i64 a0_1) := (blk_cell BK231001.out 1).trans rfl; have hcz24_2 : w23.cell? ⟨gb231001, 2, none⟩ = some (.slice A0_2 l0_2.length c0_2) := (blk_cell BK231001.out 2).trans rfl; have hcz24_3 : w23.cell? ⟨gb231001, 3, none⟩ = some (.slice A0_3 l0_3.length c0_3) := (blk_cell BK231001.out 3).trans rfl; have hcz24_4 : w23.cell? ⟨gb231001, 4, none⟩ = some (.slice A0_4 l0_4.length c0_4) := (blk_cell BK231001.out 4).trans rfl; have hfz24_0 := blk_frozen BK231001.out 0; have hfz24_1 := blk_frozen BK231001.out 1; have hfz24_2 := blk_frozen BK231001.out 2; have hfz24_3 := blk_frozen BK231001.out 3; have hfz24_4 := blk_frozen BK231001.out 4; have hcz25_0 : w23.cell? ⟨gb231002, 0, none⟩ = some (.slice A1_0 l1_0.length c1_0) := (blk_cell BK231002.out 0).trans rfl; have hcz25_1 : w23.cell? ⟨gb231002, 1, none⟩ = some (.int .i64 a1_1) := (blk_cell BK231002.out 1).trans rfl; have hcz25_2 : w23.cell? ⟨gb231002, 2, none⟩ = some (.slice A1_2 l1_2.length c1_2) := (blk_cell BK231002.out 2).trans rfl; have hcz25_3 : w23.cell? ⟨gb231002, 3, none⟩ = some (.slice A1_3 l1_3.length c1_3) := (blk_cell BK231002.out 3).trans rfl; have hcz25_4 : w23.cell? ⟨gb231002, 4, none⟩ = some (.slice A1_4 l1_4.length c1_4) := (blk_cell BK231002.out 4).trans rfl; have hfz25_0 := blk_frozen BK231002.out 0; have hfz25_1 := blk_frozen BK231002.out 1; have hfz25_2 := blk_frozen BK231002.out 2; have hfz25_3 := blk_frozen BK231002.out 3; have hfz25_4 := blk_frozen BK231002.out 4) | ((with_reducible refine gate_callee (f := 15) rfl ?_); refine goesL_ (some 21) rfl rfl Try.func15 (by kernel_rfl) rfl #[.agg #[.slice A0_3 l0_3.length c0_3, .slice A0_4 l0_4.length c0_4], .agg #[.slice A1_3 l1_3.length c1_3, .slice A1_4 l1_4.length c1_4]] rfl (by (try simp only [List.map_toArray, List.map_cons, List.map_nil]); first | done | rfl | (simp only [List.length_drop, List.length_take]; rfl)) ?_; (with_reducible refine (laws_eqWeb.calls k _ _ l0_3 _ _ l0_4 _ _ l1_3 _ _ l1_4 false _ ?side1 ?side2 ?side3 ?side4 ?side5 ?side6 ?side7 ?side8 A7.out).mono ?_); (case side1 => repeat (first | exact (Kd.C_below HR0_3.out HB.out) | (with_reducible refine Kd.C_alloc ?_ _) | (with_reducible refine Kd.C_drewN ?_ _) | (with_reducible refine Kd.C_drew ?_))); (case side2 => exact HC0_3.out); (case side3 => repeat (first | exact (Kd.C_below HR0_4.out HB.out) | (with_reducible refine Kd.C_alloc ?_ _) | (with_reducible refine Kd.C_drewN ?_ _) | (with_reducible refine Kd.C_drew ?_))); (case side4 => exact HC0_4.out); (case side5 => repeat (first | exact (Kd.C_below HR1_3.out HB.out) | (with_reducible refine Kd.C_alloc ?_ _) | (with_reducible refine Kd.C_drewN ?_ _) | (with_reducible refine Kd.C_drew ?_))); (case side6 => exact HC1_3.out); (case side7 => repeat (first | exact (Kd.C_below HR1_4.out HB.out) | (with_reducible refine Kd.C_alloc ?_ _) | (with_reducible refine Kd.C_drewN ?_ _) | (with_reducible refine Kd.C_drew ?_))); (case side8 => exact HC1_4.out); rintro e w26 ⟨rfl, hb⟩; refine ⟨_, rfl, ?_⟩; have n0_ := Aside0.mk (blk_below (g := gb231001) (o := .cells #[.slice A0_0 l0_0.length c0_0, .int .i64 a0_1, .slice A0_2 l0_2.length c0_2, .slice A0_3 l0_3.length c0_3, .slice A0_4 l0_4.length c0_4] 48 (0, 0)) (by (with_reducible repeat (first | refine blk_drewN ?_ _ | refine blk_drew ?_ | refine blk_alloc ?_ _)); exact BK231001.out) hb); have n1_ := Aside0.mk (blk_below (g := gb231002) (o := .cells #[.slice A1_0 l1_0.length c1_0, .int .i64 a1_1, .slice A1_2 l1_2.length c1_2, .slice A1_3 l1_3.length c1_3, .slice A1_4 l1_4.length c1_4] 48 (0, 0)) (by (with_reducible repeat (first | refine blk_drewN ?_ _ | refine blk_drew ?_ | refine blk_alloc ?_ _)); exact BK231002.out) hb); have n2_ := Aside0.mk (below_step (by repeat (first | (with_reducible first | exact HB.out | apply below_alloc | apply pw_below_drewN | apply below_drew1 | refine below_set ?_ GE231001.out | refine below_set ?_ GE231002.out) | exact HB.out)) hb); clear BK231001; clear BK231002; clear HB; have BK231001 := n0_; have BK231002 := n1_; have HB := n2_; clear n0_ n1_ n2_; (try clear hb); (try clear hb2); (try clear hk); (try clear hi)))
 go_ret
 exact ⟨by first | rfl | (simp [errW_none, errW_some] <;> rfl) | (simp [*, errW_none, errW_some] <;> rfl), by repeat (first | (with_reducible first | exact HB.out | apply below_alloc | apply pw_below_drewN | apply below_drew1 | refine below_set ?_ GE231001.out | refine below_set ?_ GE231002.out) | exact HB.out)⟩
end Go.Proofs.Ytmeggliapebkgaa.F
end
section
namespace Go.Proofs.Ytmeggliapebkgaa.F
open Go.RowKit Go.Proofs.YtmeggliapebkgaaW.PrintWords Go.Proofs.YtmeggliapebkgaaW.PrintLast Go.Proofs.YtmeggliapebkgaaW.PrintMore
attribute [local go_sem] max2_int min2_int max_two min_two max_three min_three max_four min_four   
set_option linter.unusedVariables false
set_option linter.unusedSimpArgs false
open Go.Proofs.Ytmeggliapebkgaa.Mem
set_option maxHeartbeats 16000000 in
set_option maxRecDepth 100000 in
theorem isDesk_small (k0 : Nat) (A0 : Option Addr) (c0 : Nat) (l : List Int) (p : Int) (A2 : Option Addr) (c2 : Nat) (x : List S131) (A3 : Option Addr) (c3 : Nat) (m : List Int) (A4 : Option Addr) (c4 : Nat) (L : List (List Int)) (t : Int) (w : World)
    (hr0 : Kd.C (Kd.int .i64) w A0 l.length l) (hc0 : l.length ≤ c0) (hr2 : Kd.C k131 w A2 x.length x) (hc2 : x.length ≤ c2) (hr3 : Kd.C (Kd.int .i64) w A3 m.length m) (hc3 : m.length ≤ c3) (hr4 : Kd.C (Kd.slice 2 (Kd.int .i64)) w A4 L.length L) (hc4 : L.length ≤ c4)
    (e0 : laws_szDesk.f k0 l p x m L 1048576 = some t) (ht : t < 0) :
    Calls Try.prog 4 #[.agg #[.slice A0 l.length c0, .int .i64 p, .slice A2 x.length c2, .slice A3 m.length c3, .slice A4 L.length c4]] w fun e w' => e = .returned (.bool true) ∧ Below w.heap.size w w' := by
  have hu1 := Try.underlying41
  have hu2 := Try.underlying48
  have t1 : decide (t < 0) = true := decide_eq_true ht
  obtain ⟨D, hD⟩ : ∃ D, D = Obj.cells #[.slice A0 l.length c0, .int .i64 p, .slice A2 x.length c2, .slice A3 m.length c3, .slice A4 L.length c4] 41 (0, 0) := ⟨_, rfl⟩
  have HB := Aside0.mk (below_alloc (Below.refl w.heap.size w) D)
  have HR0 := Aside0.mk (Kd.C_alloc hr0 D)
  have HR2 := Aside0.mk (Kd.C_alloc hr2 D)
  have HR3 := Aside0.mk (Kd.C_alloc hr3 D)
  have HR4 := Aside0.mk (Kd.C_alloc hr4 D)
  have HC := Aside0.mk (And.intro hc0 (And.intro hc2 (And.intro hc3 hc4)))
  have E0 := Aside0.mk e0
  have b := @new_at w D _ rfl
  rw [hD] at b HB HR0 HR2 HR3 HR4
  have q0 := (blk_cell b 0).trans rfl
  have q1 := (blk_cell b 1).trans rfl
  have q2 := (blk_cell b 2).trans rfl
  have q3 := (blk_cell b 3).trans rfl
  have q4 := (blk_cell b 4).trans rfl
  clear hr0 hc0 hr2 hc2 hr3 hc3 hr4 hc4 e0 ht hD b
  go_enter Try.func4, Try.ntmps4
  go_wp2_with fail
  refine (laws_szDesk.calls k0 A0 c0 l p A2 c2 x A3 c3 m A4 c4 L 1048576 t _ HR0.out HC.out.1 HR2.out HC.out.2.1 HR3.out HC.out.2.2.1 HR4.out HC.out.2.2.2 E0.out).mono ?_
  rintro e w1 ⟨rfl, hb⟩
  have HB1 := Aside0.mk (below_step HB.out hb)
  clear hb q0 q1 q2 q3 q4
  go_wp2_with fail
  go_ret
  exact ⟨rfl, HB1.out⟩
set_option maxHeartbeats 16000000 in
set_option maxRecDepth 100000 in
theorem isDesk_returns (k0 k1 k2 k3 k4 : Nat) (A0 : Option Addr) (c0 : Nat) (l : List Int) (p : Int) (A2 : Option Addr) (c2 : Nat) (x : List S131) (A3 : Option Addr) (c3 : Nat) (m : List Int) (A4 : Option Addr) (c4 : Nat) (L : List (List Int)) (t : Int) (y : List S115) (r : Bool) (w : World)
    (hr0 : Kd.C (Kd.int .i64) w A0 l.length l) (hc0 : l.length ≤ c0) (hr2 : Kd.C k131 w A2 x.length x) (hc2 : x.length ≤ c2) (hr3 : Kd.C (Kd.int .i64) w A3 m.length m) (hc3 : m.length ≤ c3) (hr4 : Kd.C (Kd.slice 2 (Kd.int .i64)) w A4 L.length L) (hc4 : L.length ≤ c4)
    (e0 : laws_szDesk.f k0 l p x m L 1048576 = some t) (ht : 0 ≤ t) (e1 : laws_toDesk.f k1 l p x m L = some (l, p, y, m, L)) (e2 : spec_IsDesk.f k2 l p y m L = some r) (e3 : impl_IsDesk.f k3 l p y m L = some r) (e4 : laws_eqDesk.f k4 l p y m L l p y m L = some true) :
    Calls Try.prog 4 #[.agg #[.slice A0 l.length c0, .int .i64 p, .slice A2 x.length c2, .slice A3 m.length c3, .slice A4 L.length c4]] w fun e w' => e = .returned (.bool true) ∧ Below w.heap.size w w' := by
  have hu1 := Try.underlying41
  have hu2 := Try.underlying48
  have t1 : decide (t < 0) = false := decide_eq_false (by omega)
  have t2 : (r != r) = false := by cases r <;> rfl
  obtain ⟨D, hD⟩ : ∃ D, D = Obj.cells #[.slice A0 l.length c0, .int .i64 p, .slice A2 x.length c2, .slice A3 m.length c3, .slice A4 L.length c4] 41 (0, 0) := ⟨_, rfl⟩
  have HB := Aside0.mk (below_alloc (Below.refl w.heap.size w) D)
  have HR0 := Aside0.mk (Kd.C_alloc hr0 D)
  have HR2 := Aside0.mk (Kd.C_alloc hr2 D)
  have HR3 := Aside0.mk (Kd.C_alloc hr3 D)
  have HR4 := Aside0.mk (Kd.C_alloc hr4 D)
  have HC := Aside0.mk (And.intro hc0 (And.intro hc2 (And.intro hc3 hc4)))
  have E0 := Aside0.mk e0
  have E1 := Aside0.mk e1
  have E2 := Aside0.mk e2
  have E3 := Aside0.mk e3
  have E4 := Aside0.mk e4
  have b := @new_at w D _ rfl
  rw [hD] at b HB HR0 HR2 HR3 HR4
  have q0 := (blk_cell b 0).trans rfl
  have q1 := (blk_cell b 1).trans rfl
  have q2 := (blk_cell b 2).trans rfl
  have q3 := (blk_cell b 3).trans rfl
  have q4 := (blk_cell b 4).trans rfl
  have BK := Aside0.mk b
  clear hr0 hc0 hr2 hc2 hr3 hc3 hr4 hc4 e0 ht e1 e2 e3 e4 hD b
  go_enter Try.func4, Try.ntmps4
  go_wp2_with fail
  generalize (w.alloc (.cells #[.slice A0 l.length c0, .int .i64 p, .slice A2 x.length c2, .slice A3 m.length c3, .slice A4 L.length c4] 41)) = Wa at HB HR0 HR2 HR3 HR4 BK q0 q1 q2 q3 q4 ⊢
  refine (laws_szDesk.calls k0 A0 c0 l p A2 c2 x A3 c3 m A4 c4 L 1048576 t _ HR0.out HC.out.1 HR2.out HC.out.2.1 HR3.out HC.out.2.2.1 HR4.out HC.out.2.2.2 E0.out).mono ?_
  rintro e w1 ⟨rfl, hb⟩
  have K1 := Aside0.mk hb
  have b := blk_below BK.out hb
  have q0 := (blk_cell b 0).trans rfl
  have q1 := (blk_cell b 1).trans rfl
  have q2 := (blk_cell b 2).trans rfl
  have q3 := (blk_cell b 3).trans rfl
  have q4 := (blk_cell b 4).trans rfl
  clear hb b
  go_wp2_with fail
  refine (laws_toDesk.calls k1 A0 c0 l p A2 c2 x A3 c3 m A4 c4 L l p y m L _ (Kd.C_below HR0.out K1.out) HC.out.1 (Kd.C_below HR2.out K1.out) HC.out.2.1 (Kd.C_below HR3.out K1.out) HC.out.2.2.1 (Kd.C_below HR4.out K1.out) HC.out.2.2.2 E1.out).mono ?_
  rintro e w2 ⟨v0, v2, v3, v4, rfl, o0, o2, o3, o4, hb⟩
  obtain ⟨X0, d0, rfl, l0, C0⟩ := Kd.R_reads o0
  obtain ⟨X2, d2, rfl, l2, C2⟩ := Kd.S_reads o2
  obtain ⟨X3, d3, rfl, l3, C3⟩ := Kd.R_reads o3
  obtain ⟨X4, d4, rfl, l4, C4⟩ := Kd.S_reads o4
  have HX := Aside0.mk (And.intro (And.intro l0 C0) (And.intro (And.intro l2 C2) (And.intro (And.intro l3 C3) (And.intro l4 C4))))
  have K2 := Aside0.mk (below_step K1.out hb)
  clear o0 o2 o3 o4 l0 C0 l2 C2 l3 C3 l4 C4 hb q0 q1 q2 q3 q4
  go_wp2_with fail
  refine (spec_IsDesk.calls k2 X0 d0 l p X2 d2 y X3 d3 m X4 d4 L r _ HX.out.1.2 HX.out.1.1 HX.out.2.1.2 HX.out.2.1.1 HX.out.2.2.1.2 HX.out.2.2.1.1 HX.out.2.2.2.2 HX.out.2.2.2.1 E2.out).mono ?_
  rintro e w3 ⟨rfl, hb⟩
  have K3 := Aside0.mk (below_step K2.out hb)
  have b := blk_below BK.out K3.out
  have q0 := (blk_cell b 0).trans rfl
  have q1 := (blk_cell b 1).trans rfl
  have q2 := (blk_cell b 2).trans rfl
  have q3 := (blk_cell b 3).trans rfl
  have q4 := (blk_cell b 4).trans rfl
  clear hb b HX
  go_wp2_with fail
  refine (laws_toDesk.calls k1 A0 c0 l p A2 c2 x A3 c3 m A4 c4 L l p y m L _ (Kd.C_below HR0.out K3.out) HC.out.1 (Kd.C_below HR2.out K3.out) HC.out.2.1 (Kd.C_below HR3.out K3.out) HC.out.2.2.1 (Kd.C_below HR4.out K3.out) HC.out.2.2.2 E1.out).mono ?_
  rintro e w4 ⟨v0, v2, v3, v4, rfl, o0, o2, o3, o4, hb⟩
  obtain ⟨Y0, f0, rfl, l0, C0⟩ := Kd.R_reads o0
  obtain ⟨Y2, f2, rfl, l2, C2⟩ := Kd.S_reads o2
  obtain ⟨Y3, f3, rfl, l3, C3⟩ := Kd.R_reads o3
  obtain ⟨Y4, f4, rfl, l4, C4⟩ := Kd.S_reads o4
  obtain ⟨D, hD⟩ : ∃ D, D = Obj.cells #[.slice Y0 l.length f0, .int .i64 p, .slice Y2 y.length f2, .slice Y3 m.length f3, .slice Y4 L.length f4] 48 (0, 0) := ⟨_, rfl⟩
  have HY := Aside0.mk (And.intro (And.intro l0 (Kd.C_alloc C0 D)) (And.intro (And.intro l2 (Kd.C_alloc C2 D)) (And.intro (And.intro l3 (Kd.C_alloc C3 D)) (And.intro l4 (Kd.C_alloc C4 D)))))
  have K4 := Aside0.mk (below_alloc (below_step K3.out hb) D)
  have b := @new_at w4 D _ rfl
  rw [hD] at b HY K4
  have p0 := (blk_cell b 0).trans rfl
  have p1 := (blk_cell b 1).trans rfl
  have p2 := (blk_cell b 2).trans rfl
  have p3 := (blk_cell b 3).trans rfl
  have p4 := (blk_cell b 4).trans rfl
  have PK := Aside0.mk b
  clear o0 o2 o3 o4 l0 C0 l2 C2 l3 C3 l4 C4 hb b hD q0 q1 q2 q3 q4
  go_wp2_with fail
  generalize (w4.alloc (.cells #[.slice Y0 l.length f0, .int .i64 p, .slice Y2 y.length f2, .slice Y3 m.length f3, .slice Y4 L.length f4] 48)) = W4 at HY K4 PK p0 p1 p2 p3 p4 ⊢
  refine (impl_IsDesk.calls k3 Y0 f0 l p Y2 f2 y Y3 f3 m Y4 f4 L r _ HY.out.1.2 HY.out.1.1 HY.out.2.1.2 HY.out.2.1.1 HY.out.2.2.1.2 HY.out.2.2.1.1 HY.out.2.2.2.2 HY.out.2.2.2.1 E3.out).mono ?_
  rintro e w5 ⟨rfl, hb⟩
  have K45 := Aside0.mk hb
  have K5 := Aside0.mk (below_step K4.out hb)
  have b := blk_below BK.out K5.out
  have q0 := (blk_cell b 0).trans rfl
  have q1 := (blk_cell b 1).trans rfl
  have q2 := (blk_cell b 2).trans rfl
  have q3 := (blk_cell b 3).trans rfl
  have q4 := (blk_cell b 4).trans rfl
  have b := blk_below PK.out hb
  have p0 := (blk_cell b 0).trans rfl
  have p1 := (blk_cell b 1).trans rfl
  have p2 := (blk_cell b 2).trans rfl
  have p3 := (blk_cell b 3).trans rfl
  have p4 := (blk_cell b 4).trans rfl
  have PK5 := Aside0.mk b
  clear hb b
  go_wp2_with fail
  go_region_law (first
    | (refine goes_ Try.func21 (by kernel_rfl) rfl #[.agg #[.slice A0 l.length c0, .int .i64 p, .slice A2 x.length c2, .slice A3 m.length c3, .slice A4 L.length c4]] (by rfl) rfl rfl (by simp [Act.eval, Act.put]) ?_; refine (laws_toDesk.calls k1 A0 c0 l p A2 c2 x A3 c3 m A4 c4 L l p y m L _ ?s1 HC.out.1 ?s2 HC.out.2.1 ?s3 HC.out.2.2.1 ?s4 HC.out.2.2.2 E1.out).mono ?_; (case s1 => first | exact Kd.C_below HR0.out K5.out | exact Kd.C_drew (Kd.C_below HR0.out K5.out)); (case s2 => first | exact Kd.C_below HR2.out K5.out | exact Kd.C_drew (Kd.C_below HR2.out K5.out)); (case s3 => first | exact Kd.C_below HR3.out K5.out | exact Kd.C_drew (Kd.C_below HR3.out K5.out)); (case s4 => first | exact Kd.C_below HR4.out K5.out | exact Kd.C_drew (Kd.C_below HR4.out K5.out)); rintro e w6 ⟨v0, v2, v3, v4, rfl, o0, o2, o3, o4, hb⟩; obtain ⟨Z0, z0, rfl, l0, C0⟩ := Kd.R_reads o0; obtain ⟨Z2, z2, rfl, l2, C2⟩ := Kd.S_reads o2; obtain ⟨Z3, z3, rfl, l3, C3⟩ := Kd.R_reads o3; obtain ⟨Z4, z4, rfl, l4, C4⟩ := Kd.S_reads o4; have HZ := Aside0.mk (And.intro (And.intro l0 C0) (And.intro (And.intro l2 C2) (And.intro (And.intro l3 C3) (And.intro l4 C4)))); have K56 : Aside0 (Below w5.heap.size w5 w6) := ⟨by first | exact hb | exact below_step (below_drew1 (Below.refl _ _)) hb⟩; clear o0 o2 o3 o4 l0 C0 l2 C2 l3 C3 l4 C4 hb; (try have b := blk_below PK5.out K56.out); (try have p0 := (blk_cell b 0).trans rfl); (try have p1 := (blk_cell b 1).trans rfl); (try have p2 := (blk_cell b 2).trans rfl); (try have p3 := (blk_cell b 3).trans rfl); (try have p4 := (blk_cell b 4).trans rfl); (try clear b); refine ⟨_, rfl, ?_⟩)
    | (refine goes_ Try.func23 (by kernel_rfl) rfl #[.agg #[.slice Y0 l.length f0, .int .i64 p, .slice Y2 y.length f2, .slice Y3 m.length f3, .slice Y4 L.length f4], .agg #[.slice Z0 l.length z0, .int .i64 p, .slice Z2 y.length z2, .slice Z3 m.length z3, .slice Z4 L.length z4]] (by rfl) rfl rfl (by simp [Act.eval, Act.put]) ?_; refine (laws_eqDesk.calls k4 Y0 f0 l p Y2 f2 y Y3 f3 m Y4 f4 L Z0 z0 l p Z2 z2 y Z3 z3 m Z4 z4 L true _ (Kd.C_below HY.out.1.2 (below_step K45.out K56.out)) HY.out.1.1 (Kd.C_below HY.out.2.1.2 (below_step K45.out K56.out)) HY.out.2.1.1 (Kd.C_below HY.out.2.2.1.2 (below_step K45.out K56.out)) HY.out.2.2.1.1 (Kd.C_below HY.out.2.2.2.2 (below_step K45.out K56.out)) HY.out.2.2.2.1 HZ.out.1.2 HZ.out.1.1 HZ.out.2.1.2 HZ.out.2.1.1 HZ.out.2.2.1.2 HZ.out.2.2.1.1 HZ.out.2.2.2.2 HZ.out.2.2.2.1 E4.out).mono ?_; rintro e w7 ⟨rfl, hb⟩; have K7 := Aside0.mk (below_step (below_step K5.out K56.out) hb); clear hb; refine ⟨_, rfl, ?_⟩))
  all_goals
    go_wp2_with fail
    go_ret
    exact ⟨rfl, below_step HB.out K7.out⟩
noncomputable def laws_FnExactIsDesk.f (_ : Nat) (l : List Int) (p : Int) (x : List S131) (m : List Int) (L : List (List Int)) : Option Bool :=
  open Classical in if (∃ k t, laws_szDesk.f k l p x m L 1048576 = some t ∧ t < 0) ∨ (∃ k0 k1 k2 k3 k4 t y r, laws_szDesk.f k0 l p x m L 1048576 = some t ∧ 0 ≤ t ∧ laws_toDesk.f k1 l p x m L = some (l, p, y, m, L) ∧ spec_IsDesk.f k2 l p y m L = some r ∧ impl_IsDesk.f k3 l p y m L = some r ∧ laws_eqDesk.f k4 l p y m L l p y m L = some true) then some true else none
theorem laws_FnExactIsDesk.calls (k : Nat) (A0 : Option Addr) (c0 : Nat) (l : List Int) (p : Int) (A2 : Option Addr) (c2 : Nat) (x : List S131) (A3 : Option Addr) (c3 : Nat) (m : List Int) (A4 : Option Addr) (c4 : Nat) (L : List (List Int)) (r : Bool) (w : World)
    (hr0 : Kd.C (Kd.int .i64) w A0 l.length l) (hc0 : l.length ≤ c0) (hr2 : Kd.C k131 w A2 x.length x) (hc2 : x.length ≤ c2) (hr3 : Kd.C (Kd.int .i64) w A3 m.length m) (hc3 : m.length ≤ c3) (hr4 : Kd.C (Kd.slice 2 (Kd.int .i64)) w A4 L.length L) (hc4 : L.length ≤ c4) (h : laws_FnExactIsDesk.f k l p x m L = some r) :
    Calls Try.prog 4 #[.agg #[.slice A0 l.length c0, .int .i64 p, .slice A2 x.length c2, .slice A3 m.length c3, .slice A4 L.length c4]] w fun e w' => e = .returned (.bool r) ∧ Below w.heap.size w w' := by
  unfold laws_FnExactIsDesk.f at h
  split at h
  · rename_i g
    obtain rfl := Option.some.inj h
    rcases g with ⟨k0, t, e0, ht⟩ | ⟨k0, k1, k2, k3, k4, t, y, r, e0, ht, e1, e2, e3, e4⟩
    · exact isDesk_small k0 A0 c0 l p A2 c2 x A3 c3 m A4 c4 L t w hr0 hc0 hr2 hc2 hr3 hc3 hr4 hc4 e0 ht
    · exact isDesk_returns k0 k1 k2 k3 k4 A0 c0 l p A2 c2 x A3 c3 m A4 c4 L t y r w hr0 hc0 hr2 hc2 hr3 hc3 hr4 hc4 e0 ht e1 e2 e3 e4
  · cases h
end Go.Proofs.Ytmeggliapebkgaa.F
end
section
namespace Go.Proofs.Ytmeggliapebkgaa.F
open Go.RowKit Go.Proofs.YtmeggliapebkgaaW.PrintWords Go.Proofs.YtmeggliapebkgaaW.PrintLast Go.Proofs.YtmeggliapebkgaaW.PrintMore
attribute [local go_sem] max2_int min2_int max_two min_two max_three min_three max_four min_four   
set_option linter.unusedVariables false
set_option linter.unusedSimpArgs false
end Go.Proofs.Ytmeggliapebkgaa.F
end
section
namespace Go.Proofs.Ytmeggliapebkgaa.Pure
open Go.RowKit Go.Proofs.Ytmeggliapebkgaa.F Go.Proofs.YtmeggliapebkgaaW.PrintWords Go.Proofs.YtmeggliapebkgaaW.PrintLast
theorem Ev_succ {α : Type} {g : Nat → Option α} {r : α} (h : Ev (fun k => g (k + 1)) r) : Ev g r := Ev.step (fun _ => rfl) h
theorem own_f (l : List Int) (hb : l.length < 17592186044416) : spec_l01Own.f l = some l := by
  unfold spec_l01Own.f
  rw [Option.bind_some, if_pos (by simpa using hb)]; rfl
theorem index_l0 (l : List Int) (x : Int) (hb : l.length < 4611686018427387904) : ∀ d n, n + d = l.length → x ∈ l.drop n → Ev (fun k => slices_Index_int64_int64.l0 k l x (l.length : Int) (n : Int)) ((n + (l.drop n).idxOf x : Nat) : Int) := by
  intro d
  induction d with
  | zero => intro n hn hx; rw [List.drop_of_length_le (by omega)] at hx; exact absurd hx (by simp)
  | succ d ih =>
    intro n hn hx
    rw [drop_cons (by omega)] at hx ⊢
    by_cases e : x = l.getD n 0
    · refine Ev.step (f := fun _ => some (n : Int)) (fun k => ?_) ?_
      · simp only [slices_Index_int64_int64.l0]; rw [if_pos (by omega), if_pos (by omega), if_pos (by omega), rdN, if_pos e]
      · rw [← e, List.idxOf_cons_self]; exact Ev.now _
    · have hx' : x ∈ l.drop (n + 1) := (List.mem_cons.1 hx).resolve_left e
      rw [List.idxOf_cons, show (l.getD n 0 == x) = false from beq_eq_false_iff_ne.2 (Ne.symm e), cond_false, show n + ((l.drop (n + 1)).idxOf x + 1) = n + 1 + (l.drop (n + 1)).idxOf x from by omega]
      refine Ev.step (fun k => ?_) (ih (n + 1) (by omega) hx')
      simp only [slices_Index_int64_int64.l0]; rw [if_pos (by omega), if_pos (by omega), if_pos (by omega), rdN, if_neg e, wS (by omega)]
theorem index_ev (l : List Int) (x : Int) (hb : l.length < 4611686018427387904) (hx : x ∈ l) : Ev (fun k => slices_Index_int64_int64.f k l x) (l.idxOf x : Int) := by
  have h := index_l0 l x hb l.length 0 (by omega) hx
  rw [Nat.zero_add] at h
  exact h
end Go.Proofs.Ytmeggliapebkgaa.Pure
end
section
namespace Go.Proofs.Ytmeggliapebkgaa.Pure
open Go.RowKit Go.Proofs.Ytmeggliapebkgaa.F Go.Proofs.YtmeggliapebkgaaW.PrintWords Go.Proofs.YtmeggliapebkgaaW.PrintLast
set_option linter.unusedVariables false
set_option linter.unusedSimpArgs false
theorem lrdRow (rows : List (List Int)) (a : Nat) : rd_L1 rows (a : Int) = rows.getD a [] := by unfold rd_L1; rw [Int.toNat_natCast]
structure Small (L : List (List Int)) : Prop where
  len : L.length ≤ 1048576
  row : ∀ l ∈ L, l.length ≤ 1048576
theorem Small.at {L : List (List Int)} (h : Small L) (j : Nat) : (L.getD j []).length ≤ 1048576 := by
  rw [List.getD_eq_getElem?_getD]
  cases e : L[j]? with
  | none => simp
  | some l => exact h.row l (List.mem_of_getElem? e)
theorem toSS_ev {L : List (List Int)} (h : Small L) : Ev (fun k => laws_toInt64SS.f k L) L := by
  have hl := h.len
  have key : ∀ d n, n + d = L.length → Ev (fun k => laws_toInt64SS.l0 k L (L.take n ++ List.replicate d []) (n : Int)) L := by
    intro d
    induction d with
    | zero =>
      intro n hn
      rw [List.take_of_length_le (by omega), List.replicate_zero, List.append_nil]
      refine Ev_succ ?_
      simp only [laws_toInt64SS.l0]
      exact Ev.congr (fun k => if_neg (by omega)) (Ev.now _)
    | succ d ih =>
      intro n hn
      have htl : (L.take n).length = n := by rw [List.length_take]; omega
      refine Ev_succ ?_
      simp only [laws_toInt64SS.l0]
      refine Ev.congr (fun k => if_pos (by omega)) (Ev.congr (fun k => if_pos (by omega)) ?_)
      rw [lrdRow]
      refine Ev.bind (toS_ev _ (by have := h.at n; omega)) ?_
      refine Ev.congr (fun k => if_pos (by rw [List.length_append, htl, List.length_replicate]; omega)) ?_
      have := ih (n + 1) (by omega)
      rw [Int.toNat_natCast, wS (n := n) (by omega), List.set_append_right _ _ (by omega), htl, Nat.sub_self, List.replicate_succ, List.set_cons_zero]
      have ht : L.take (n + 1) = L.take n ++ [L.getD n []] := by
        rw [List.take_succ_eq_append_getElem (by omega), List.getD_eq_getElem?_getD, List.getElem?_eq_getElem (by omega)]; rfl
      rw [ht, List.append_assoc] at this
      exact this
  have := key L.length 0 (by omega)
  rw [List.take_zero, List.nil_append] at this
  unfold laws_toInt64SS.f
  refine Ev.congr (fun k => if_pos (by omega)) (Ev.congr (fun k => if_pos (by omega)) ?_)
  rw [Int.toNat_natCast]
  exact this
theorem eqSS_ev {a b : List (List Int)} (ha : Small a) : Ev (fun k => laws_eqInt64SS.f k a b) (decide (a = b)) := by
  have hl := ha.len
  unfold laws_eqInt64SS.f
  by_cases e : a.length = b.length
  · refine Ev.congr (fun k => if_pos (by omega)) ?_
    have key : ∀ d n, n + d = a.length → Ev (fun k => laws_eqInt64SS.l0 k a b (n : Int)) (decide (a.drop n = b.drop n)) := by
      intro d
      induction d with
      | zero =>
        intro n hn
        rw [List.drop_of_length_le (by omega), List.drop_of_length_le (by omega)]
        refine Ev_succ ?_
        simp only [laws_eqInt64SS.l0]
        exact Ev.congr (fun k => if_neg (by omega)) (Ev.now _)
      | succ d ih =>
        intro n hn
        have h1 : a.drop n = a.getD n [] :: a.drop (n + 1) := by rw [List.drop_eq_getElem_cons (by omega), List.getD_eq_getElem?_getD, List.getElem?_eq_getElem (by omega)]; rfl
        have h2 : b.drop n = b.getD n [] :: b.drop (n + 1) := by rw [List.drop_eq_getElem_cons (by omega), List.getD_eq_getElem?_getD, List.getElem?_eq_getElem (by omega)]; rfl
        refine Ev_succ ?_
        simp only [laws_eqInt64SS.l0]
        refine Ev.congr (fun k => if_pos (by omega)) (Ev.congr (fun k => if_pos (by omega)) (Ev.congr (fun k => if_pos (by omega)) ?_))
        rw [lrdRow, lrdRow]
        refine Ev.bind (eqS_ev _ _ (by have := ha.at n; omega)) ?_
        by_cases g : a.getD n [] = b.getD n []
        · refine Ev.congr (fun k => if_pos (decide_eq_true g)) ?_
          rw [wS (n := n) (by omega)]
          have := ih (n + 1) (by omega)
          have e2 : decide (a.drop n = b.drop n) = decide (a.drop (n + 1) = b.drop (n + 1)) := by
            rw [decide_eq_decide, h1, h2, g]
            exact ⟨fun h => (List.cons.inj h).2, fun h => by rw [h]⟩
          rw [e2]; exact this
        · refine Ev.congr (fun k => if_neg (by simpa using g)) ?_
          rw [decide_eq_false (fun h => g (by rw [h1, h2] at h; exact (List.cons.inj h).1))]
          exact Ev.now _
    have := key a.length 0 (by omega)
    rw [List.drop_zero, List.drop_zero] at this
    exact this
  · refine Ev.congr (fun k => if_neg (by omega)) ?_
    rw [decide_eq_false (fun h => e (by rw [h]))]
    exact Ev.now _
theorem szS_f (l : List Int) (x : Int) (hl : l.length ≤ maxLen) (h0 : 0 ≤ x) (h1 : x ≤ 1048576) : laws_szInt64S.f l x = some (if (l.length : Int) ≤ x then x - l.length else -1) := by
  unfold maxLen at hl
  unfold laws_szInt64S.f
  rw [show wrap64 (x - (l.length : Int)) = x - l.length from by unfold wrap64; omega]
  by_cases h : (l.length : Int) ≤ x
  · rw [if_neg (by omega), if_pos h]
  · rw [if_pos (by omega), if_neg h]
theorem szSS_ev (L : List (List Int)) (x : Int) (hl : L.length ≤ maxLen) (hr : ∀ l ∈ L, l.length ≤ maxLen) (h0 : 0 ≤ x) (h1 : x ≤ 1048576) : ∃ t, Ev (fun k => laws_szInt64SS.f k L x) t ∧ (0 ≤ t → Small L) ∧ t ≤ 1048576 := by
  unfold maxLen at hl
  unfold laws_szInt64SS.f
  rw [show wrap64 (x - (L.length : Int)) = x - L.length from by unfold wrap64; omega]
  by_cases h : (L.length : Int) ≤ x
  · have key : ∀ d n y, n + d = L.length → 0 ≤ y → y ≤ 1048576 → ∃ t, Ev (fun k => laws_szInt64SS.l0 k L y (n : Int)) t ∧ (0 ≤ t → ∀ l ∈ L.drop n, l.length ≤ 1048576) ∧ t ≤ 1048576 := by
      intro d
      induction d with
      | zero =>
        intro n y hn hy hy1
        refine ⟨y, ?_, fun _ => by rw [List.drop_of_length_le (by omega)]; simp, hy1⟩
        refine Ev_succ ?_
        simp only [laws_szInt64SS.l0]
        exact Ev.congr (fun k => if_neg (by omega)) (Ev.now _)
      | succ d ih =>
        intro n y hn hy hy1
        have hd : L.drop n = L.getD n [] :: L.drop (n + 1) := by rw [List.drop_eq_getElem_cons (by omega), List.getD_eq_getElem?_getD, List.getElem?_eq_getElem (by omega)]; rfl
        have hm : (L.getD n []).length ≤ maxLen := hr _ (by rw [List.getD_eq_getElem?_getD, List.getElem?_eq_getElem (by omega)]; exact List.getElem_mem _)
        have hs := szS_f (L.getD n []) y hm hy hy1
        by_cases g : ((L.getD n []).length : Int) ≤ y
        · obtain ⟨t, ht, hq, ht1⟩ := ih (n + 1) (y - (L.getD n []).length) (by omega) (by omega) (by omega)
          refine ⟨t, ?_, fun h0 l hl' => ?_, ht1⟩
          · refine Ev_succ ?_
            simp only [laws_szInt64SS.l0]
            refine Ev.congr (fun k => if_pos (by omega)) (Ev.congr (fun k => if_pos (by omega)) ?_)
            rw [lrdRow, hs, if_pos g]
            simp only [Option.bind_some]
            rw [wS (n := n) (by omega)]
            exact Ev.congr (fun k => if_neg (by omega)) ht
          · rw [hd] at hl'
            rcases List.mem_cons.1 hl' with q | q
            · rw [q]; omega
            · exact hq h0 l q
        · refine ⟨-1, ?_, fun h0 => absurd h0 (by omega), by omega⟩
          refine Ev_succ ?_
          simp only [laws_szInt64SS.l0]
          refine Ev.congr (fun k => if_pos (by omega)) (Ev.congr (fun k => if_pos (by omega)) ?_)
          rw [lrdRow, hs, if_neg g]
          simp only [Option.bind_some]
          exact Ev.congr (fun k => if_pos (by omega)) (Ev.now _)
    obtain ⟨t, ht, hq, ht1⟩ := key L.length 0 (x - L.length) (by omega) (by omega) (by omega)
    exact ⟨t, Ev.congr (fun k => if_neg (by omega)) ht, fun h0 => ⟨by omega, fun l hl' => hq h0 l (by rw [List.drop_zero]; exact hl')⟩, ht1⟩
  · exact ⟨-1, Ev.congr (fun k => if_pos (by omega)) (Ev.now _), fun h0 => absurd h0 (by omega), by omega⟩
theorem toWeb_ev {l : List Int} {L : List (List Int)} (hl : l.length ≤ 1048576) (hL : Small L) : Ev (fun k => laws_toWeb.f k l L) (l, L) := by
  unfold laws_toWeb.f
  exact Ev.bind (toS_ev l (by omega)) (Ev.bind (toSS_ev hL) (Ev.now _))
theorem eqWeb_ev {l m : List Int} {L M : List (List Int)} (hl : l.length ≤ 1048576) (hL : Small L) : Ev (fun k => laws_eqWeb.f k l L m M) (decide (l = m ∧ L = M)) := by
  unfold laws_eqWeb.f
  refine Ev.bind (eqS_ev l m (by omega)) ?_
  by_cases h : l = m
  · refine Ev.congr (fun k => if_pos (decide_eq_true h)) (Ev.bind (eqSS_ev hL) ?_)
    by_cases g : L = M
    · rw [decide_eq_true (show l = m ∧ L = M from ⟨h, g⟩)]
      exact Ev.congr (fun k => if_pos (decide_eq_true g)) (Ev.now _)
    · rw [decide_eq_false (show ¬ (l = m ∧ L = M) from fun q => g q.2)]
      exact Ev.congr (fun k => if_neg (by simpa using g)) (Ev.now _)
  · rw [decide_eq_false (show ¬ (l = m ∧ L = M) from fun q => h q.1)]
    exact Ev.congr (fun k => if_neg (by simpa using h)) (Ev.now _)
theorem eqWeb_same {l : List Int} {L : List (List Int)} (hl : l.length ≤ 1048576) (hL : Small L) : Ev (fun k => laws_eqWeb.f k l L l L) true := by
  have := eqWeb_ev (m := l) (M := L) hl hL
  rwa [decide_eq_true (show l = l ∧ L = L from ⟨rfl, rfl⟩)] at this
end Go.Proofs.Ytmeggliapebkgaa.Pure
end
section
namespace Go.Proofs.Ytmeggliapebkgaa.Pure
open Go.RowKit Go.Proofs.Ytmeggliapebkgaa.F Go.Proofs.Ytmeggliapebkgaa.Mem Go.Proofs.Ytmeggliapebkgaa.Web Go.Proofs.YtmeggliapebkgaaW.PrintWords Go.Proofs.YtmeggliapebkgaaW.PrintLast
set_option linter.unusedVariables false
set_option linter.unusedSimpArgs false
theorem wrdRow (rows : List (List Int)) (a : Nat) : rd_L1 rows (a : Int) = rows.getD a [] := by unfold rd_L1; rw [Int.toNat_natCast]
def edgesW (legs : List Int) (forks : List (List Int)) (i : Nat) : List Int := if i < legs.length then [legs.getD i 0] else forks.getD (i - legs.length) []
theorem edges_f (legs : List Int) (forks : List (List Int)) (i : Nat) (hi : i < legs.length + forks.length) (hb : legs.length + forks.length ≤ 8) : spec_l06Edges.f legs forks (i : Int) = some (edgesW legs forks i) := by
  unfold spec_l06Edges.f edgesW
  by_cases h : i < legs.length
  · rw [if_pos (by omega), if_pos (by omega), if_pos h, rdN]
  · have e : wrap64 ((i : Int) - (legs.length : Int)) = ((i - legs.length : Nat) : Int) := by unfold wrap64; omega
    rw [if_neg (by omega), if_neg h, e, if_pos (by omega), if_pos (by omega), wrdRow]
theorem mem_edges {legs : List Int} {forks : List (List Int)} {e : Int} {u : Nat} (hu : u < legs.length + forks.length) : e ∈ edgesW legs forks u ↔ (e, u) ∈ inc legs forks := by
  rw [mem_inc]
  unfold edgesW
  by_cases h : u < legs.length
  · rw [if_pos h, List.mem_singleton, List.getD_eq_getElem?_getD, List.getElem?_eq_getElem h]
    constructor
    · intro g; left; rw [g]; rfl
    · rintro (g | g)
      · exact (Option.some.inj g).symm
      · omega
  · rw [if_neg h, List.getD_eq_getElem?_getD, List.getElem?_eq_getElem (by omega)]
    constructor
    · intro g; exact .inr ⟨by omega, _, rfl, g⟩
    · rintro (g | ⟨_, f, hf, g⟩)
      · have := (List.getElem?_eq_some_iff.1 g).1; omega
      · rw [← Option.some.inj hf] at g; exact g
def joinB (a b : List Int) : Bool := a.any fun x => b.contains x
theorem joined_l1 (a b : List Int) (ha : a.length < 4611686018427387904) (hb : b.length < 4611686018427387904) (i : Nat) (hi : i < a.length) (res : Bool) (hr : Ev (fun k => spec_l06Joined.l0 k a b ((i + 1 : Nat) : Int)) res) :
    ∀ d j, j + d = b.length → Ev (fun k => spec_l06Joined.l1 k a b (i : Int) (j : Int)) (if (b.drop j).contains (a.getD i 0) = true then true else res) := by
  intro d
  induction d with
  | zero =>
    intro j hj
    rw [List.drop_of_length_le (by omega)]
    refine Ev_succ ?_
    simp only [spec_l06Joined.l1]
    rw [wS (n := i) (by omega)]
    exact Ev.congr (fun k => if_neg (by omega)) (by simpa using hr)
  | succ d ih =>
    intro j hj
    rw [List.drop_eq_getElem_cons (by omega)]
    have hg : b[j]'(by omega) = b.getD j 0 := by rw [List.getD_eq_getElem?_getD, List.getElem?_eq_getElem (by omega)]; rfl
    rw [hg]
    refine Ev_succ ?_
    simp only [spec_l06Joined.l1]
    refine Ev.congr (fun k => if_pos (by omega)) (Ev.congr (fun k => if_pos (by omega)) (Ev.congr (fun k => if_pos (by omega)) (Ev.congr (fun k => if_pos (by omega)) ?_)))
    rw [rdN, rdN]
    by_cases e : a.getD i 0 = b.getD j 0
    · refine Ev.congr (fun k => if_pos e) ?_
      rw [if_pos (by rw [List.contains_cons, e]; simp)]
      exact Ev.now _
    · refine Ev.congr (fun k => if_neg e) ?_
      rw [wS (n := j) (by omega), List.contains_cons, show (a.getD i 0 == b.getD j 0) = false from by simpa using e, Bool.false_or]
      exact ih (j + 1) (by omega)
theorem joined_l0 (a b : List Int) (ha : a.length < 4611686018427387904) (hb : b.length < 4611686018427387904) : ∀ d i, i + d = a.length → Ev (fun k => spec_l06Joined.l0 k a b (i : Int)) (joinB (a.drop i) b) := by
  intro d
  induction d with
  | zero =>
    intro i hi
    rw [List.drop_of_length_le (by omega)]
    refine Ev_succ ?_
    simp only [spec_l06Joined.l0]
    exact Ev.congr (fun k => if_neg (by omega)) (Ev.now _)
  | succ d ih =>
    intro i hi
    have h := joined_l1 a b ha hb i (by omega) _ (ih (i + 1) (by omega)) b.length 0 (by omega)
    rw [List.drop_eq_getElem_cons (by omega)]
    have hg : a[i]'(by omega) = a.getD i 0 := by rw [List.getD_eq_getElem?_getD, List.getElem?_eq_getElem (by omega)]; rfl
    rw [hg]
    refine Ev_succ ?_
    simp only [spec_l06Joined.l0]
    refine Ev.congr (fun k => if_pos (by omega)) ?_
    rw [List.drop_zero] at h
    have e : joinB (a.getD i 0 :: a.drop (i + 1)) b = if b.contains (a.getD i 0) = true then true else joinB (a.drop (i + 1)) b := by
      unfold joinB; rw [List.any_cons]
      cases b.contains (a.getD i 0) <;> simp
    rw [e]; exact h
theorem joined_ev (a b : List Int) (ha : a.length < 4611686018427387904) (hb : b.length < 4611686018427387904) : Ev (fun k => spec_l06Joined.f k a b) (joinB a b) := joined_l0 a b ha hb a.length 0 (by omega)
theorem join_J {legs : List Int} {forks : List (List Int)} {u v : Nat} (hu : u < legs.length + forks.length) (hv : v < legs.length + forks.length) : joinB (edgesW legs forks u) (edgesW legs forks v) = true ↔ J (inc legs forks) u v := by
  unfold joinB J
  rw [List.any_eq_true]
  constructor
  · rintro ⟨e, h1, h2⟩
    exact ⟨e, (mem_edges hu).1 h1, (mem_edges hv).1 (List.contains_iff_mem.1 h2)⟩
  · rintro ⟨e, h1, h2⟩
    exact ⟨e, (mem_edges hu).2 h1, List.contains_iff_mem.2 ((mem_edges hv).2 h2)⟩
def sumN (l : List Nat) : Nat := l.foldr (· + ·) 0
theorem sum_set : ∀ (l : List Nat) (i x : Nat), i < l.length → sumN (l.set i x) + at_ l i = sumN l + x
  | [], _, _, h => absurd h (by simp)
  | a :: l, 0, x, _ => by simp [sumN, at_]; omega
  | a :: l, i + 1, x, h => by
    have := sum_set l i x (by simpa using h)
    simp only [List.set_cons_succ, sumN, List.foldr_cons, at_, List.getD_cons_succ] at this ⊢
    omega
theorem sum_relax {out : List Nat} {i k : Nat} (hi : i < out.length) (hk : k < out.length) (hne : i ≠ k) (h : at_ out i ≠ at_ out k) : sumN (relax2 out i k) < sumN out := by
  have h1 := sum_set out i (low2 out i k) hi
  have h2 := sum_set (out.set i (low2 out i k)) k (low2 out i k) (by rw [List.length_set]; exact hk)
  rw [at_set hi, if_neg (Ne.symm hne)] at h2
  unfold relax2
  unfold low2 at h1 h2 ⊢
  omega
structure WPass (I : List (Int × Nat)) (n : Nat) (out0 out : List Nat) (more : Bool) : Prop where
  fits : Fits I n out
  no : more = false → out = out0
  yes : more = true → sumN out < sumN out0
theorem ints_set (l : List Nat) (i x : Nat) : (ints l).set i (x : Int) = ints (l.set i x) := by unfold ints; rw [List.map_set]
theorem rd_ints {l : List Nat} {i : Nat} (h : i < l.length) : rd (ints l) (i : Int) = ((at_ l i : Nat) : Int) := by rw [rdN, ints_getD l i h]; rfl
theorem mn_nat (a b : Nat) : mn (a : Int) (b : Int) = ((min a b : Nat) : Int) := by unfold mn; omega
theorem edges_len {legs : List Int} {forks : List (List Int)} (hf : ∀ f ∈ forks, f.length = 3) (i : Nat) : (edgesW legs forks i).length ≤ 3 := by
  unfold edgesW
  split
  · simp
  · rw [List.getD_eq_getElem?_getD]
    cases h : forks[i - legs.length]? with
    | none => simp
    | some f => have := hf f (List.mem_of_getElem? h); simp [this]
section
variable {legs : List Int} {forks : List (List Int)} {n : Nat} (hn : n = legs.length + forks.length) (h8 : n ≤ 8) (hf : ∀ f ∈ forks, f.length = 3)
include hn h8 hf
theorem wparts_l3 (out0 : List Nat) (Q : List Int → Prop) (i : Nat) (hi : i < n) (m0 : Bool)
    (hnext : ∀ out more, WPass (inc legs forks) n out0 out more → (m0 = true → more = true) → (more = false → ∀ k, k < i → J (inc legs forks) i k → at_ out0 i = at_ out0 k) → ∃ res, Ev (fun k => spec_l06Parts.l2 k (ints out) more ((i + 1 : Nat) : Int) legs forks) res ∧ Q res) :
    ∀ e k out more, k + e = i → WPass (inc legs forks) n out0 out more → (m0 = true → more = true) → (more = false → ∀ k', k' < k → J (inc legs forks) i k' → at_ out0 i = at_ out0 k') → ∃ res, Ev (fun q => spec_l06Parts.l3 q (ints out) more (i : Int) (k : Int) legs forks) res ∧ Q res := by
  intro e
  induction e with
  | zero =>
    intro k out more hk hp hs hc
    obtain ⟨res, hr, hq⟩ := hnext out more hp hs (fun hm k' hk' hj => hc hm k' (by omega) hj)
    refine ⟨res, ?_, hq⟩
    refine Ev_succ ?_
    simp only [spec_l06Parts.l3]
    rw [wS (n := i) (by omega)]
    exact Ev.congr (fun k => if_neg (by omega)) hr
  | succ e ih =>
    intro k out more hk hp hs hc
    have hl := hp.fits.len
    have hil : (ints out).length = out.length := ints_len out
    have step : ∀ res, Ev (fun q => if at_ out i = at_ out k then spec_l06Parts.l3 q (ints out) more (i : Int) ((k + 1 : Nat) : Int) legs forks else if joinB (edgesW legs forks i) (edgesW legs forks k) = true then spec_l06Parts.l3 q (ints (relax2 out i k)) true (i : Int) ((k + 1 : Nat) : Int) legs forks else spec_l06Parts.l3 q (ints out) more (i : Int) ((k + 1 : Nat) : Int) legs forks) res → Ev (fun q => spec_l06Parts.l3 q (ints out) more (i : Int) (k : Int) legs forks) res := by
      intro res hr
      refine Ev_succ ?_
      simp only [spec_l06Parts.l3]
      refine Ev.congr (fun q => if_pos (by omega)) (Ev.congr (fun q => if_pos (by omega)) (Ev.congr (fun q => if_pos (by omega)) (Ev.congr (fun q => if_pos (by omega)) (Ev.congr (fun q => if_pos (by omega)) ?_))))
      rw [rd_ints (by omega), rd_ints (by omega), wS (n := k) (by omega), edges_f legs forks i (by omega) (by omega), edges_f legs forks k (by omega) (by omega)]
      by_cases c : at_ out i = at_ out k
      · refine Ev.congr (fun q => if_pos (by omega)) ?_
        exact Ev.congr (fun q => (if_pos c).symm) hr
      · refine Ev.congr (fun q => if_neg (by omega)) ?_
        simp only [Option.bind_some]
        have h1 := edges_len (legs := legs) hf i
        have h2 := edges_len (legs := legs) hf k
        refine Ev.bind (joined_ev _ _ (by omega) (by omega)) ?_
        have hr2 := Ev.congr (fun q => (if_neg c).symm) hr
        rw [mn_nat, Int.toNat_natCast, Int.toNat_natCast, ints_set, ints_set]
        exact hr2
    by_cases c : at_ out i = at_ out k
    · obtain ⟨res, hr, hq⟩ := ih (k + 1) out more (by omega) hp hs (fun hm k' hk' hj => by
        by_cases g : k' = k
        · have := hp.no hm; subst this; subst g; exact c
        · exact hc hm k' (by omega) hj)
      exact ⟨res, step res (Ev.congr (fun q => if_pos c) hr), hq⟩
    · by_cases d : joinB (edgesW legs forks i) (edgesW legs forks k) = true
      · have hj := (join_J (by omega) (by omega)).1 d
        have hlt := sum_relax (out := out) (i := i) (k := k) (by omega) (by omega) (by omega) c
        obtain ⟨res, hr, hq⟩ := ih (k + 1) (relax2 out i k) true (by omega) ⟨hp.fits.relax (by omega) (by omega) hj, fun hm => absurd hm (by simp), fun _ => by
          cases hmo : more with
          | false => rw [← hp.no hmo]; exact hlt
          | true => have := hp.yes hmo; omega⟩ (fun _ => rfl) (fun hm => absurd hm (by simp))
        exact ⟨res, step res (Ev.congr (fun q => (if_neg c).trans (if_pos d)) hr), hq⟩
      · obtain ⟨res, hr, hq⟩ := ih (k + 1) out more (by omega) hp hs (fun hm k' hk' hj => by
          by_cases g : k' = k
          · subst g; exact absurd ((join_J (by omega) (by omega)).2 hj) d
          · exact hc hm k' (by omega) hj)
        exact ⟨res, step res (Ev.congr (fun q => (if_neg c).trans (if_neg d)) hr), hq⟩
theorem wparts_l2 (out0 : List Nat) (Q : List Int → Prop)
    (hnext : ∀ out more, WPass (inc legs forks) n out0 out more → (more = false → ∀ i, i < n → ∀ k, k < i → J (inc legs forks) i k → at_ out0 i = at_ out0 k) → ∃ res, Ev (fun k => spec_l06Parts.l1 k (ints out) more legs forks) res ∧ Q res) :
    ∀ e i out more, i + e = n → WPass (inc legs forks) n out0 out more → (more = false → ∀ i', i' < i → ∀ k, k < i' → J (inc legs forks) i' k → at_ out0 i' = at_ out0 k) → ∃ res, Ev (fun q => spec_l06Parts.l2 q (ints out) more (i : Int) legs forks) res ∧ Q res := by
  intro e
  induction e with
  | zero =>
    intro i out more hi hp hc
    have hl := hp.fits.len
    have hil : (ints out).length = out.length := ints_len out
    obtain ⟨res, hr, hq⟩ := hnext out more hp (fun hm i' hi' => hc hm i' (by omega))
    refine ⟨res, ?_, hq⟩
    refine Ev_succ ?_
    simp only [spec_l06Parts.l2]
    exact Ev.congr (fun k => if_neg (by omega)) hr
  | succ e ih =>
    intro i out more hi hp hc
    have hl := hp.fits.len
    have hil : (ints out).length = out.length := ints_len out
    obtain ⟨res, hr, hq⟩ := wparts_l3 hn h8 hf out0 Q i (by omega) more (fun out' more' hp' hs' hc' => ih (i + 1) out' more' (by omega) hp' (fun hm i' hi' => by
      by_cases g : i' = i
      · subst g; exact hc' hm
      · refine hc ?_ i' (by omega)
        cases hmo : more with
        | false => rfl
        | true => rw [hs' hmo] at hm; exact absurd hm (by simp))) i 0 out more (by omega) hp (fun hm => hm) (fun _ k' hk' => absurd hk' (Nat.not_lt_zero _))
    refine ⟨res, ?_, hq⟩
    refine Ev_succ ?_
    simp only [spec_l06Parts.l2]
    exact Ev.congr (fun k => if_pos (by omega)) hr
theorem wparts_l1 : ∀ m (out : List Nat), sumN out ≤ m → Fits (inc legs forks) n out → Ev (fun k => spec_l06Parts.l1 k (ints out) true legs forks) (ints ((List.range n).map (lbl (inc legs forks)))) := by
  have fin : ∀ out out' more', Fits (inc legs forks) n out → WPass (inc legs forks) n out out' more' → (more' = false → ∀ i, i < n → ∀ k, k < i → J (inc legs forks) i k → at_ out i = at_ out k) → more' = false → ∃ res, Ev (fun k => spec_l06Parts.l1 k (ints out') more' legs forks) res ∧ res = ints ((List.range n).map (lbl (inc legs forks))) := by
    intro out out' more' hF hp' hcl hmo
    have e := hp'.no hmo
    subst e
    refine ⟨ints out', ?_, ?_⟩
    · refine Ev_succ ?_
      simp only [spec_l06Parts.l1]
      exact Ev.congr (fun k => if_neg (by rw [hmo]; simp)) (Ev.now _)
    · rw [← fixed_lbl (fun e u h => by rw [hn]; exact inc_lt h) hF (fun u v hj => ?_)]
      obtain ⟨e, h1, h2⟩ := hj
      have hu : u < n := by rw [hn]; exact inc_lt h1
      have hv : v < n := by rw [hn]; exact inc_lt h2
      rcases Nat.lt_trichotomy u v with g | g | g
      · exact (hcl hmo v hv u g ⟨e, h2, h1⟩).symm
      · rw [g]
      · exact hcl hmo u hu v g ⟨e, h1, h2⟩
  intro m
  induction m with
  | zero =>
    intro out hm hF
    obtain ⟨res, hr, hq⟩ := wparts_l2 hn h8 hf out (fun res => res = ints ((List.range n).map (lbl (inc legs forks)))) (fun out' more' hp' hcl => by
      cases hmo : more' with
      | true => have := hp'.yes hmo; omega
      | false => rw [← hmo]; exact fin out out' more' hF hp' hcl hmo) n 0 out false (by omega) ⟨hF, fun _ => rfl, fun h => absurd h (by simp)⟩ (fun _ i' hi' => absurd hi' (Nat.not_lt_zero _))
    subst hq
    refine Ev_succ ?_
    simp only [spec_l06Parts.l1]
    exact Ev.congr (fun k => if_pos trivial) hr
  | succ m ih =>
    intro out hm hF
    obtain ⟨res, hr, hq⟩ := wparts_l2 hn h8 hf out (fun res => res = ints ((List.range n).map (lbl (inc legs forks)))) (fun out' more' hp' hcl => by
      cases hmo : more' with
      | true => have := hp'.yes hmo; exact ⟨_, ih out' (by omega) hp'.fits, rfl⟩
      | false => rw [← hmo]; exact fin out out' more' hF hp' hcl hmo) n 0 out false (by omega) ⟨hF, fun _ => rfl, fun h => absurd h (by simp)⟩ (fun _ i' hi' => absurd hi' (Nat.not_lt_zero _))
    subst hq
    refine Ev_succ ?_
    simp only [spec_l06Parts.l1]
    exact Ev.congr (fun k => if_pos trivial) hr
theorem wparts_ev : Ev (fun k => spec_l06Parts.f k legs forks) (ints ((List.range n).map (lbl (inc legs forks)))) := by
  have key : ∀ d i, i + d = forks.length + legs.length → Ev (fun k => spec_l06Parts.l0 k (legs.length : Int) (ints (List.range i)) (i : Int) legs forks) (ints ((List.range n).map (lbl (inc legs forks)))) := by
    intro d
    induction d with
    | zero =>
      intro i hi
      obtain rfl : i = n := by omega
      have e : wrap64 ((legs.length : Int) + (forks.length : Int)) = (i : Int) := by unfold wrap64; omega
      refine Ev_succ ?_
      simp only [spec_l06Parts.l0]
      rw [e]
      refine Ev.congr (fun k => if_neg (by omega)) ?_
      exact wparts_l1 hn h8 hf _ _ (Nat.le_refl _) (range_fits _ _)
    | succ d ih =>
      intro i hi
      have e : wrap64 ((legs.length : Int) + (forks.length : Int)) = (n : Int) := by unfold wrap64; omega
      refine Ev_succ ?_
      simp only [spec_l06Parts.l0]
      rw [e]
      refine Ev.congr (fun k => if_pos (by omega)) (Ev.congr (fun k => if_pos (by rw [ints_len, List.length_range]; omega)) ?_)
      have := ih (i + 1) (by omega)
      rw [List.range_succ, ints_app] at this
      rw [wS (n := i) (by omega)]
      exact this
  exact key (forks.length + legs.length) 0 (by omega)
end
theorem inc_fst (legs : List Int) (forks : List (List Int)) : (inc legs forks).map Prod.fst = legs ++ forks.flatten := by
  unfold inc
  rw [List.map_append, List.map_flatMap]
  congr 1
  · simp [List.zipIdx_map_fst]
  · have : ∀ (F : List (List Int)) (s : Nat), (F.zipIdx s).flatMap (fun p => (p.1.map fun e => (e, p.2)).map Prod.fst) = F.flatten := by
      intro F
      induction F with
      | nil => intro s; rfl
      | cons f F ih => intro s; rw [List.zipIdx_cons, List.flatMap_cons, ih]; simp [Function.comp_def]
    exact this forks legs.length
theorem ends_count (legs : List Int) (forks : List (List Int)) (e : Int) : (ends (inc legs forks) e).length = (legs ++ forks.flatten).count e := by
  unfold ends
  rw [List.length_map, ← inc_fst, List.count, List.countP_map, ← List.countP_eq_length_filter]
  rfl
def twiceL (all : List Int) : Bool := all.all fun x => decide (0 ≤ x ∧ x ≤ 1000) && all.count x == 2
theorem twice_all (legs : List Int) (forks : List (List Int)) : twiceB legs forks = twiceL (legs ++ forks.flatten) := by
  unfold twiceB twiceL
  rw [← inc_fst, List.all_map]
  congr 1
  funext p
  simp only [Function.comp, ends_count, inc_fst]
theorem etwice_l2 (all : List Int) (ha : all.length ≤ 1000) (i : Nat) (hi : i < all.length) (res : Bool) (hr : Ev (fun k => spec_l06Twice.l1 k all ((i + 1 : Nat) : Int)) res) :
    ∀ d j c, j + d = all.length → c ≤ j → Ev (fun k => spec_l06Twice.l2 k all (i : Int) (c : Int) (j : Int)) (if c + (all.drop j).count (all.getD i 0) = 2 ∧ 0 ≤ all.getD i 0 ∧ all.getD i 0 ≤ 1000 then res else false) := by
  intro d
  induction d with
  | zero =>
    intro j c hj hc
    rw [List.drop_of_length_le (by omega), List.count_nil, Nat.add_zero]
    refine Ev_succ ?_
    simp only [spec_l06Twice.l2]
    refine Ev.congr (fun k => if_neg (by omega)) ?_
    by_cases h2 : c = 2
    · refine Ev.congr (fun k => if_pos (by omega)) (Ev.congr (fun k => if_pos (by omega)) (Ev.congr (fun k => if_pos (by omega)) ?_))
      rw [rdN, spec_in_f, wS (n := i) (by omega)]
      simp only [Option.bind_some]
      by_cases h3 : 0 ≤ all.getD i 0 ∧ all.getD i 0 ≤ 1000
      · rw [if_pos ⟨h2, h3⟩]
        exact Ev.congr (fun k => if_pos (decide_eq_true h3)) hr
      · rw [if_neg (fun h => h3 h.2)]
        exact Ev.congr (fun k => if_neg (by simpa using h3)) (Ev.now _)
    · rw [if_neg (fun h => h2 h.1)]
      exact Ev.congr (fun k => if_neg (by omega)) (Ev.now _)
  | succ d ih =>
    intro j c hj hc
    rw [List.drop_eq_getElem_cons (by omega), List.count_cons]
    have hg : all[j]'(by omega) = all.getD j 0 := by rw [List.getD_eq_getElem?_getD, List.getElem?_eq_getElem (by omega)]; rfl
    rw [hg]
    refine Ev_succ ?_
    simp only [spec_l06Twice.l2]
    refine Ev.congr (fun k => if_pos (by omega)) (Ev.congr (fun k => if_pos (by omega)) (Ev.congr (fun k => if_pos (by omega)) (Ev.congr (fun k => if_pos (by omega)) ?_)))
    rw [rdN, rdN, wS (n := j) (by omega), wS (n := c) (by omega)]
    by_cases e : all.getD j 0 = all.getD i 0
    · refine Ev.congr (fun k => if_pos e) ?_
      have := ih (j + 1) (c + 1) (by omega) (by omega)
      rw [show (all.getD j 0 == all.getD i 0) = true from by simpa using e, if_pos rfl, show c + (List.count (all.getD i 0) (all.drop (j + 1)) + 1) = c + 1 + List.count (all.getD i 0) (all.drop (j + 1)) from by omega]
      exact this
    · refine Ev.congr (fun k => if_neg e) ?_
      have := ih (j + 1) c (by omega) (by omega)
      rw [show (all.getD j 0 == all.getD i 0) = false from by simpa using e, if_neg (show ¬ (false = true) from by simp), Nat.add_zero]
      exact this
theorem etwice_l1 (all : List Int) (ha : all.length ≤ 1000) : ∀ d i, i + d = all.length → Ev (fun k => spec_l06Twice.l1 k all (i : Int)) ((all.drop i).all fun x => decide (0 ≤ x ∧ x ≤ 1000) && all.count x == 2) := by
  intro d
  induction d with
  | zero =>
    intro i hi
    rw [List.drop_of_length_le (by omega)]
    refine Ev_succ ?_
    simp only [spec_l06Twice.l1]
    exact Ev.congr (fun k => if_neg (by omega)) (Ev.now _)
  | succ d ih =>
    intro i hi
    have h := etwice_l2 all ha i (by omega) _ (ih (i + 1) (by omega)) all.length 0 0 (by omega) (by omega)
    rw [List.drop_zero, Nat.zero_add] at h
    rw [List.drop_eq_getElem_cons (by omega), List.all_cons]
    have hg : all[i]'(by omega) = all.getD i 0 := by rw [List.getD_eq_getElem?_getD, List.getElem?_eq_getElem (by omega)]; rfl
    rw [hg]
    refine Ev_succ ?_
    simp only [spec_l06Twice.l1]
    refine Ev.congr (fun k => if_pos (by omega)) ?_
    have e : ((decide (0 ≤ all.getD i 0 ∧ all.getD i 0 ≤ 1000) && List.count (all.getD i 0) all == 2) && (all.drop (i + 1)).all fun x => decide (0 ≤ x ∧ x ≤ 1000) && List.count x all == 2) = if List.count (all.getD i 0) all = 2 ∧ 0 ≤ all.getD i 0 ∧ all.getD i 0 ≤ 1000 then (all.drop (i + 1)).all (fun x => decide (0 ≤ x ∧ x ≤ 1000) && List.count x all == 2) else false := by
      by_cases h1 : List.count (all.getD i 0) all = 2 <;> by_cases h2 : 0 ≤ all.getD i 0 ∧ all.getD i 0 ≤ 1000
      · rw [if_pos ⟨h1, h2⟩, decide_eq_true h2, h1]; rfl
      · rw [if_neg (fun h => h2 h.2), decide_eq_false h2]; rfl
      · rw [if_neg (fun h => h1 h.1), show (List.count (all.getD i 0) all == 2) = false from by simpa using h1]; simp
      · rw [if_neg (fun h => h1 h.1), decide_eq_false h2]; rfl
    rw [e]; exact h
theorem etwice_ev (legs : List Int) (forks : List (List Int)) (h8 : legs.length + forks.length ≤ 8) : Ev (fun k => spec_l06Twice.f k legs forks) ((forks.all fun f => f.length == 3) && twiceB legs forks) := by
  unfold spec_l06Twice.f
  rw [own_f legs (by omega)]
  simp only [Option.bind_some]
  have key : ∀ d i, i + d = forks.length → (∀ f ∈ forks.take i, f.length = 3) → Ev (fun k => spec_l06Twice.l0 k (legs ++ (forks.take i).flatten) (i : Int) legs forks) (((forks.drop i).all fun f => f.length == 3) && twiceB legs forks) := by
    intro d
    induction d with
    | zero =>
      intro i hi h3
      rw [List.take_of_length_le (by omega)] at h3 ⊢
      rw [List.drop_of_length_le (by omega), List.all_nil, Bool.true_and, twice_all]
      refine Ev_succ ?_
      simp only [spec_l06Twice.l0]
      refine Ev.congr (fun k => if_neg (by omega)) ?_
      have hlen : ∀ F : List (List Int), (∀ f ∈ F, f.length = 3) → F.flatten.length = 3 * F.length := by
        intro F
        induction F with
        | nil => intro _; rfl
        | cons f F ih => intro h; rw [List.flatten_cons, List.length_append, ih (fun g hg => h g (List.mem_cons_of_mem _ hg)), h f List.mem_cons_self, List.length_cons]; omega
      have := hlen forks h3
      exact etwice_l1 (legs ++ forks.flatten) (by rw [List.length_append]; omega) (legs ++ forks.flatten).length 0 (by omega)
    | succ d ih =>
      intro i hi h3
      rw [List.drop_eq_getElem_cons (by omega), List.all_cons]
      have hg : forks[i]'(by omega) = forks.getD i [] := by rw [List.getD_eq_getElem?_getD, List.getElem?_eq_getElem (by omega)]; rfl
      rw [hg]
      refine Ev_succ ?_
      simp only [spec_l06Twice.l0]
      refine Ev.congr (fun k => if_pos (by omega)) (Ev.congr (fun k => if_pos (by omega)) ?_)
      rw [wrdRow, wS (n := i) (by omega)]
      by_cases e : (forks.getD i []).length = 3
      · refine Ev.congr (fun k => if_pos (by omega)) ?_
        have hlen : ∀ F : List (List Int), (∀ f ∈ F, f.length = 3) → F.flatten.length = 3 * F.length := by
          intro F
          induction F with
          | nil => intro _; rfl
          | cons f F ih => intro h; rw [List.flatten_cons, List.length_append, ih (fun g hg => h g (List.mem_cons_of_mem _ hg)), h f List.mem_cons_self, List.length_cons]; omega
        have hl := hlen _ h3
        rw [List.length_take] at hl
        refine Ev.congr (fun k => if_pos (by rw [List.length_append]; omega)) ?_
        have ht : forks.take (i + 1) = forks.take i ++ [forks.getD i []] := by rw [List.take_succ_eq_append_getElem (by omega), hg]
        have := ih (i + 1) (by omega) (fun f hf => by
          rw [ht] at hf
          rcases List.mem_append.1 hf with q | q
          · exact h3 f q
          · rw [List.mem_singleton] at q; rw [q]; exact e)
        rw [ht, List.flatten_append, ← List.append_assoc] at this
        rw [show ((forks.getD i []).length == 3) = true from by rw [e]; rfl, Bool.true_and]
        simpa using this
      · refine Ev.congr (fun k => if_neg (by omega)) ?_
        rw [show ((forks.getD i []).length == 3) = false from by simpa using e]
        exact Ev.now _
  have := key forks.length 0 (by omega) (by simp)
  simpa using this
theorem specIs_ev (legs : List Int) (forks : List (List Int)) (h1 : legs.length ≤ 17592186044416) (h2 : forks.length ≤ 17592186044416) : Ev (fun k => spec_l06Is.f k legs forks) (isWebB legs forks) := by
  unfold spec_l06Is.f isWebB
  have e : wrap64 ((legs.length : Int) + (forks.length : Int)) = ((legs.length + forks.length : Nat) : Int) := by unfold wrap64; omega
  rw [e]
  by_cases h8 : legs.length + forks.length ≤ 8
  · rw [decide_eq_true h8, Bool.true_and]
    refine Ev.congr (fun k => if_neg (by omega)) (Ev.bind (etwice_ev legs forks h8) ?_)
    cases ht : ((forks.all fun f => f.length == 3) && twiceB legs forks) with
    | false =>
      rw [Bool.false_and]
      refine Ev_succ ?_
      simp only [spec_l06Is.j0, Bool.not_false, if_true]
      exact Ev.now _
    | true =>
      rw [Bool.true_and]
      have hf : ∀ f ∈ forks, f.length = 3 := fun f hf => by
        have := List.all_eq_true.1 (Bool.and_eq_true_iff.1 ht).1 f hf
        exact eq_of_beq this
      refine Ev_succ ?_
      simp only [spec_l06Is.j0]
      refine Ev.congr (fun k => if_neg (by simp)) (Ev.bind (wparts_ev rfl h8 hf) ?_)
      obtain ⟨n, hn⟩ : ∃ n, n = legs.length + forks.length := ⟨_, rfl⟩
      unfold rootedB
      rw [← hn]
      have key : ∀ d v, v + d = n → Ev (fun k => spec_l06Is.l0 k (ints ((List.range n).map (lbl (inc legs forks)))) (v : Int) legs forks) (((List.range n).drop v).all fun v => decide (lbl (inc legs forks) v < legs.length)) := by
        have hil : (ints ((List.range n).map (lbl (inc legs forks)))).length = n := by rw [ints_len]; simp
        intro d
        induction d with
        | zero =>
          intro v hv
          rw [List.drop_of_length_le (by rw [List.length_range]; omega)]
          refine Ev_succ ?_
          simp only [spec_l06Is.l0]
          exact Ev.congr (fun k => if_neg (by omega)) (Ev.now _)
        | succ d ih =>
          intro v hv
          rw [List.drop_eq_getElem_cons (by rw [List.length_range]; omega), List.all_cons, List.getElem_range]
          refine Ev_succ ?_
          simp only [spec_l06Is.l0]
          refine Ev.congr (fun k => if_pos (by omega)) (Ev.congr (fun k => if_pos (by omega)) ?_)
          have ha : at_ ((List.range n).map (lbl (inc legs forks))) v = lbl (inc legs forks) v := by
            unfold at_; rw [List.getD_eq_getElem?_getD, List.getElem?_map, List.getElem?_range (by omega)]; rfl
          rw [rd_ints (by simp; omega), ha, wS (n := v) (by omega)]
          by_cases c : lbl (inc legs forks) v < legs.length
          · rw [decide_eq_true c, Bool.true_and]
            exact Ev.congr (fun k => if_neg (by omega)) (ih (v + 1) (by omega))
          · rw [decide_eq_false c, Bool.false_and]
            exact Ev.congr (fun k => if_pos (by omega)) (Ev.now _)
      exact key n 0 (by omega)
  · rw [decide_eq_false h8]
    refine Ev.congr (fun k => if_pos (by omega)) ?_
    refine Ev_succ ?_
    simp only [spec_l06Is.j0, if_true, Bool.false_and]
    exact Ev.now _
end Go.Proofs.Ytmeggliapebkgaa.Pure
end
section
namespace Go.Proofs.Ytmeggliapebkgaa.Pure
open Go.RowKit Go.Proofs.Ytmeggliapebkgaa.F Go.Proofs.Ytmeggliapebkgaa.Web Go.Proofs.YtmeggliapebkgaaW.PrintWords Go.Proofs.YtmeggliapebkgaaW.PrintLast
theorem wf_inc {l : List Int} {L : List (List Int)} (w0 : ∀ x ∈ l, (Lit.int .i64 x).wf = true) (w1 : ∀ m ∈ L, ∀ x ∈ m, (Lit.int .i64 x).wf = true) : wfW l L = true := by
  unfold wfW
  rw [List.all_eq_true]
  intro p hp
  rcases mem_inc.1 (show (p.1, p.2) ∈ inc l L from hp) with h | ⟨_, f, hf, he⟩
  · exact w0 _ (List.mem_of_getElem? h)
  · exact w1 f (List.mem_of_getElem? hf) _ he
theorem specIs_C {l : List Int} {L : List (List Int)} (hl : l.length ≤ 1048576) (hL : Small L) : Ev (fun k => spec_l06Is.f k l L) (isWebC l L) := by
  have := hL.len
  rw [isWebC_eq]
  exact specIs_ev l L (by omega) (by omega)
end Go.Proofs.Ytmeggliapebkgaa.Pure
end
section
namespace Go.Proofs.Ytmeggliapebkgaa.Pure
open Go.RowKit Go.Proofs.Ytmeggliapebkgaa.F Go.Proofs.YtmeggliapebkgaaW.PrintWords Go.Proofs.YtmeggliapebkgaaW.PrintLast
set_option linter.unusedVariables false
def cmpL : List Int → List Int → Int
  | [], [] => 0
  | [], _ :: _ => -1
  | _ :: _, [] => 1
  | x :: a, y :: b => if x < y then -1 else if x > y then 1 else cmpL a b
theorem cmp1 (x y : Int) : cmp_Compare_int64.f x y = some (if x < y then -1 else if x > y then 1 else 0) := by
  unfold cmp_Compare_int64.f cmp_isNaN_int64.f
  rw [Option.bind_some, Option.bind_some, if_neg (by simp), if_neg (by simp)]
  by_cases h1 : x < y
  · rw [if_pos h1, if_pos h1]
  · by_cases h2 : x > y
    · rw [if_neg h1, if_pos h2, if_neg h1, if_pos h2]
    · rw [if_neg h1, if_neg h2, if_neg h1, if_neg h2]
theorem compare_l0 (a b : List Int) (ha : a.length < 4611686018427387904) (hb : b.length < 4611686018427387904) : ∀ d n, n + d = a.length → n ≤ b.length → Ev (fun k => slices_Compare_int64_int64.l0 k a b a (a.length : Int) (n : Int)) (cmpL (a.drop n) (b.drop n)) := by
  intro d
  induction d with
  | zero =>
    intro n hn hnb
    rw [List.drop_of_length_le (l := a) (by omega)]
    refine Ev_succ ?_
    simp only [slices_Compare_int64_int64.l0]
    refine Ev.congr (fun k => if_neg (by omega)) ?_
    by_cases h : a.length < b.length
    · rw [drop_cons (l := b) (by omega)]
      exact Ev.congr (fun k => if_pos (by omega)) (Ev.now _)
    · rw [List.drop_of_length_le (l := b) (by omega)]
      exact Ev.congr (fun k => if_neg (by omega)) (Ev.now _)
  | succ d ih =>
    intro n hn hnb
    rw [drop_cons (l := a) (by omega)]
    refine Ev_succ ?_
    simp only [slices_Compare_int64_int64.l0]
    refine Ev.congr (fun k => if_pos (by omega)) (Ev.congr (fun k => if_pos (by omega)) (Ev.congr (fun k => if_pos (by omega)) ?_))
    by_cases h : n < b.length
    · rw [drop_cons (l := b) h, cmpL]
      refine Ev.congr (fun k => if_neg (by omega)) (Ev.congr (fun k => if_pos (by omega)) ?_)
      rw [rdN, rdN, cmp1]
      by_cases h1 : a.getD n 0 < b.getD n 0
      · rw [if_pos h1, if_pos h1]
        exact Ev.congr (fun k => (Option.bind_some _ _).trans (if_neg (by decide))) (Ev.now _)
      · rw [if_neg h1, if_neg h1]
        by_cases h2 : a.getD n 0 > b.getD n 0
        · rw [if_pos h2, if_pos h2]
          exact Ev.congr (fun k => (Option.bind_some _ _).trans (if_neg (by decide))) (Ev.now _)
        · rw [if_neg h2, if_neg h2]
          refine Ev.congr (fun k => (Option.bind_some _ _).trans (if_pos rfl)) ?_
          rw [wS (by omega)]
          exact ih (n + 1) (by omega) (by omega)
    · rw [List.drop_of_length_le (l := b) (by omega)]
      exact Ev.congr (fun k => if_pos (by omega)) (Ev.now _)
theorem compare_ev (a b : List Int) (ha : a.length < 4611686018427387904) (hb : b.length < 4611686018427387904) : Ev (fun k => slices_Compare_int64_int64.f k a b) (cmpL a b) :=
  compare_l0 a b ha hb a.length 0 (by omega) (by omega)
theorem before_ev (a b : List Int) (hl : a.length = b.length) (hb : a.length < 4611686018427387904) : Ev (fun k => spec_l01Before.f k a b) (decide (cmpL a b < 0)) := by
  unfold spec_l01Before.f
  refine Ev.congr (fun k => if_pos (by omega)) ?_
  have key : ∀ d n, n + d = a.length → Ev (fun k => spec_l01Before.l0 k a b (n : Int)) (decide (cmpL (a.drop n) (b.drop n) < 0)) := by
    intro d
    induction d with
    | zero =>
      intro n hn
      rw [List.drop_of_length_le (l := a) (by omega), List.drop_of_length_le (l := b) (by omega)]
      refine Ev_succ ?_
      simp only [spec_l01Before.l0]
      exact Ev.congr (fun k => if_neg (by omega)) (Ev.now _)
    | succ d ih =>
      intro n hn
      rw [drop_cons (l := a) (by omega), drop_cons (l := b) (by omega), cmpL]
      refine Ev_succ ?_
      simp only [spec_l01Before.l0]
      refine Ev.congr (fun k => if_pos (by omega)) (Ev.congr (fun k => if_pos (by omega)) (Ev.congr (fun k => if_pos (by omega)) ?_))
      rw [rdN, rdN, wS (by omega)]
      by_cases e : a.getD n 0 = b.getD n 0
      · rw [if_neg (by omega), if_neg (by omega)]
        exact Ev.congr (fun k => if_pos e) (ih (n + 1) (by omega))
      · refine Ev.congr (fun k => if_neg e) ?_
        by_cases h1 : a.getD n 0 < b.getD n 0
        · rw [if_pos h1, decide_eq_true h1, decide_eq_true (by decide)]; exact Ev.now _
        · rw [if_neg h1, if_pos (by omega), decide_eq_false h1, decide_eq_false (by decide)]; exact Ev.now _
  exact key a.length 0 (by omega)
end Go.Proofs.Ytmeggliapebkgaa.Pure
end
section
namespace Go.Proofs.Ytmeggliapebkgaa.Pure
open Go.RowKit Go.Proofs.Ytmeggliapebkgaa.F Go.Proofs.YtmeggliapebkgaaW.PrintWords Go.Proofs.YtmeggliapebkgaaW.PrintLast
theorem index_none (l : List Int) (x : Int) (hb : l.length < 4611686018427387904) : ∀ d n, n + d = l.length → x ∉ l.drop n → Ev (fun k => slices_Index_int64_int64.l0 k l x (l.length : Int) (n : Int)) (-1) := by
  intro d
  induction d with
  | zero =>
    intro n hn _
    refine Ev.step (f := fun _ => some _) (fun k => ?_) (Ev.now _)
    simp only [slices_Index_int64_int64.l0]; rw [if_neg (by omega)]
  | succ d ih =>
    intro n hn hx
    rw [drop_cons (by omega)] at hx
    refine Ev.step (fun k => ?_) (ih (n + 1) (by omega) (fun h => hx (List.mem_cons_of_mem _ h)))
    simp only [slices_Index_int64_int64.l0]; rw [if_pos (by omega), if_pos (by omega), if_pos (by omega), rdN, if_neg (fun (e : x = l.getD n 0) => hx (e ▸ List.mem_cons_self)), wS (by omega)]
theorem contains_ev (l : List Int) (x : Int) (hb : l.length < 4611686018427387904) : Ev (fun k => slices_Contains_int64_int64.f k l x) (l.contains x) := by
  unfold slices_Contains_int64_int64.f
  by_cases h : x ∈ l
  · refine Ev.bind (index_ev l x hb h) ?_
    rw [show l.contains x = true from List.contains_iff_mem.2 h]
    exact Ev.congr (fun k => by rw [decide_eq_true (by omega)]) (Ev.now _)
  · have h0 : Ev (fun k => slices_Index_int64_int64.f k l x) (-1) := index_none l x hb l.length 0 (by omega) h
    refine Ev.bind h0 ?_
    rw [show l.contains x = false from by simpa using h]
    exact Ev.congr (fun k => by rw [decide_eq_false (by omega)]) (Ev.now _)
end Go.Proofs.Ytmeggliapebkgaa.Pure
end
section
namespace Go.Proofs.Ytmeggliapebkgaa.Pure
open Go.RowKit Go.Proofs.Ytmeggliapebkgaa.F Go.Proofs.YtmeggliapebkgaaW.PrintWords Go.Proofs.YtmeggliapebkgaaW.PrintLast
set_option linter.unusedVariables false
set_option linter.unusedSimpArgs false
abbrev TI := S115
abbrev TL := S131
def tI (x : TL) : TI := ⟨x.f0, x.f1⟩
def prI (x : TI) : List Int × Int := (x.f0, x.f1)
theorem rdT (xs : List TI) (n : Nat) : rd_T115 xs (n : Int) = xs.getD n z115 := by unfold rd_T115; rw [Int.toNat_natCast]
theorem rdU (xs : List TL) (n : Nat) : rd_T131 xs (n : Int) = xs.getD n z131 := by unfold rd_T131; rw [Int.toNat_natCast]
def wordO (a b : List Int) : Int := if a.length < b.length then -1 else if b.length < a.length then 1 else cmpL a b
theorem or_ev (a b : Int) : Ev (fun k => cmp_Or_int.f k [a, b]) (if a = 0 then b else a) := by
  have hl : (([a, b] : List Int).length : Int) = 2 := rfl
  unfold cmp_Or_int.f
  rw [hl]
  refine Ev_succ ?_
  simp only [cmp_Or_int.l0]
  rw [hl]
  refine Ev.congr (fun k => if_pos (by decide)) (Ev.congr (fun k => if_pos (by decide)) (Ev.congr (fun k => if_pos (by decide)) ?_))
  by_cases h : a = 0
  · rw [if_pos h]
    refine Ev.congr (fun k => if_pos (show rd [a, b] 0 = 0 from h)) (Ev_succ ?_)
    rw [show wrap64 (0 + 1) = 1 from by unfold wrap64; omega]
    simp only [cmp_Or_int.l0]
    rw [hl]
    refine Ev.congr (fun k => if_pos (by decide)) (Ev.congr (fun k => if_pos (by decide)) (Ev.congr (fun k => if_pos (by decide)) ?_))
    by_cases g : b = 0
    · refine Ev.congr (fun k => if_pos (show rd [a, b] 1 = 0 from g)) (Ev_succ ?_)
      rw [show wrap64 (1 + 1) = 2 from by unfold wrap64; omega]
      simp only [cmp_Or_int.l0]
      exact Ev.congr (fun k => if_neg (by decide)) (by rw [g]; exact Ev.now _)
    · exact Ev.congr (fun k => if_neg (show ¬ rd [a, b] 1 = 0 from g)) (Ev.now _)
  · rw [if_neg h]
    exact Ev.congr (fun k => if_neg (show ¬ rd [a, b] 0 = 0 from h)) (Ev.now _)
theorem cmpI (x y : Int) : cmp_Compare_int.f x y = some (if x < y then -1 else if x > y then 1 else 0) := by
  unfold cmp_Compare_int.f cmp_isNaN_int.f
  rw [Option.bind_some, Option.bind_some, if_neg (by simp), if_neg (by simp)]
  by_cases h1 : x < y
  · rw [if_pos h1, if_pos h1]
  · by_cases h2 : x > y
    · rw [if_neg h1, if_pos h2, if_neg h1, if_pos h2]
    · rw [if_neg h1, if_neg h2, if_neg h1, if_neg h2]
theorem order_ev (a b : List Int) (ha : a.length < 4611686018427387904) (hb : b.length < 4611686018427387904) : Ev (fun k => impl_wordOrder.f k a b) (wordO a b) := by
  unfold impl_wordOrder.f
  rw [cmpI]
  simp only [Option.bind_some]
  refine Ev.bind (compare_ev a b ha hb) (Ev.bind (or_ev _ _) ?_)
  have e : (if (if (a.length : Int) < (b.length : Int) then (-1 : Int) else if (a.length : Int) > (b.length : Int) then 1 else 0) = 0 then cmpL a b else (if (a.length : Int) < (b.length : Int) then (-1 : Int) else if (a.length : Int) > (b.length : Int) then 1 else 0)) = wordO a b := by
    unfold wordO
    by_cases h1 : a.length < b.length
    · rw [if_pos (show (a.length : Int) < (b.length : Int) by omega), if_pos h1, if_neg (by decide)]
    · rw [if_neg (show ¬ (a.length : Int) < (b.length : Int) by omega), if_neg h1]
      by_cases h2 : b.length < a.length
      · rw [if_pos (show (a.length : Int) > (b.length : Int) by omega), if_pos h2, if_neg (by decide)]
      · rw [if_neg (show ¬ (a.length : Int) > (b.length : Int) by omega), if_neg h2, if_pos rfl]
  rw [e]
  exact Ev.now _
theorem bef_ev (a b : List Int) (ha : a.length < 4611686018427387904) : Ev (fun k => spec_l01Before.f k a b) (decide (wordO a b < 0)) := by
  unfold wordO
  by_cases h : a.length = b.length
  · rw [if_neg (by omega), if_neg (by omega)]
    exact before_ev a b h ha
  · unfold spec_l01Before.f
    refine Ev.congr (fun k => if_neg (by omega)) ?_
    by_cases h1 : a.length < b.length
    · rw [if_pos h1, decide_eq_true (show (a.length : Int) < (b.length : Int) by omega), decide_eq_true (by decide)]
      exact Ev.now _
    · rw [if_neg h1, if_pos (by omega), decide_eq_false (show ¬ (a.length : Int) < (b.length : Int) by omega), decide_eq_false (by decide)]
      exact Ev.now _
def primeB (p : Int) : Bool := ([2, 3, 5, 7, 11, 13] : List Int).contains p
theorem isPrime_ev (p : Int) : Ev (fun k => impl_isPrime.f k p) (primeB p) := by
  unfold impl_isPrime.f
  exact Ev.bind (contains_ev _ p (by decide)) (Ev.now _)
theorem prime_f (p : Int) : spec_l03Prime.f p = some (primeB p) := by
  unfold spec_l03Prime.f primeB
  simp only [List.contains_cons, List.contains_nil, Bool.or_false]
  by_cases h2 : p = 2
  · subst h2; rfl
  · by_cases h3 : p = 3
    · subst h3; rfl
    · by_cases h5 : p = 5
      · subst h5; rfl
      · by_cases h7 : p = 7
        · subst h7; rfl
        · by_cases h11 : p = 11
          · subst h11; rfl
          · rw [if_neg h2, if_neg h3, if_neg h5, if_neg h7, if_neg h11]
            rw [show (p == 2) = false from by simpa using h2, show (p == 3) = false from by simpa using h3, show (p == 5) = false from by simpa using h5, show (p == 7) = false from by simpa using h7, show (p == 11) = false from by simpa using h11]
            simp
def okAt (p : Int) (xs : List TI) (i : Nat) : Bool := isW (xs.getD i z115).f0 && (decide (1 ≤ (xs.getD i z115).f1 ∧ (xs.getD i z115).f1 ≤ wrap64 (p - 1)) && (i == 0 || decide (wordO (xs.getD (i - 1) z115).f0 (xs.getD i z115).f0 < 0)))
def sumB (p : Int) (xs : List TI) : Bool := primeB p && (decide (xs.length ≤ 200) && (List.range' 0 xs.length).all (okAt p xs))
theorem specTerms_ev (p : Int) (xs : List TI) (hl : xs.length ≤ 200) (hr : ∀ x ∈ xs, x.f0.length ≤ 1048576) : ∀ d n, n + d = xs.length → Ev (fun k => spec_l03Is.l0 k (n : Int) p xs) ((List.range' n d).all (okAt p xs)) := by
  intro d
  induction d with
  | zero =>
    intro n hn
    refine Ev_succ ?_
    simp only [spec_l03Is.l0]
    exact Ev.congr (fun k => if_neg (by omega)) (Ev.now _)
  | succ d ih =>
    intro n hn
    have hm : ∀ j, (xs.getD j z115).f0.length ≤ 1048576 := fun j => by
      rw [List.getD_eq_getElem?_getD]
      cases e : xs[j]? with
      | none => exact Nat.zero_le _
      | some l => exact hr l (List.mem_of_getElem? e)
    rw [List.range'_succ, List.all_cons]
    refine Ev_succ ?_
    simp only [spec_l03Is.l0]
    refine Ev.congr (fun k => if_pos (by omega)) (Ev.congr (fun k => if_pos (by omega)) ?_)
    rw [rdT]
    refine Ev.bind (is_ev _) ?_
    unfold okAt
    cases h1 : isW (xs.getD n z115).f0 with
    | false => rw [Bool.false_and, Bool.false_and]; exact Ev.congr (fun k => if_neg (by simp)) (Ev.now _)
    | true =>
      refine Ev.congr (fun k => if_pos rfl) ?_
      rw [Bool.true_and, spec_in_f]
      simp only [Option.bind_some]
      cases h2 : decide (1 ≤ (xs.getD n z115).f1 ∧ (xs.getD n z115).f1 ≤ wrap64 (p - 1)) with
      | false => rw [Bool.false_and, Bool.false_and]; exact Ev.congr (fun k => if_neg (by simp)) (Ev.now _)
      | true =>
        refine Ev.congr (fun k => if_pos rfl) ?_
        rw [Bool.true_and, wS (n := n) (by omega)]
        by_cases hz : n = 0
        · subst hz
          rw [show ((0 : Nat) == 0) = true from rfl, Bool.true_or, Bool.true_and]
          exact Ev.congr (fun k => if_neg (by omega)) (ih 1 (by omega))
        · rw [show (n == 0) = false from by simpa using hz, Bool.false_or]
          refine Ev.congr (fun k => if_pos (by omega)) ?_
          rw [show wrap64 ((n : Int) - 1) = ((n - 1 : Nat) : Int) from by unfold wrap64; omega]
          refine Ev.congr (fun k => if_pos (by omega)) (Ev.congr (fun k => if_pos (by omega)) ?_)
          rw [rdT]
          refine Ev.bind (bef_ev _ _ (by have := hm (n - 1); omega)) ?_
          cases h3 : decide (wordO (xs.getD (n - 1) z115).f0 (xs.getD n z115).f0 < 0) with
          | false => rw [Bool.false_and]; exact Ev.congr (fun k => if_neg (by simp)) (Ev.now _)
          | true => rw [Bool.true_and]; exact Ev.congr (fun k => if_pos rfl) (ih (n + 1) (by omega))
theorem specSum_ev (p : Int) (xs : List TI) (hl : xs.length ≤ 1048576) (hr : ∀ x ∈ xs, x.f0.length ≤ 1048576) : Ev (fun k => spec_l03Is.f k p xs) (sumB p xs) := by
  unfold spec_l03Is.f sumB
  rw [prime_f]
  simp only [Option.bind_some]
  cases hp : primeB p with
  | false =>
    refine Ev.congr (fun k => if_neg (by simp)) (Ev_succ ?_)
    rw [Bool.false_and]
    simp only [spec_l03Is.j0]
    exact Ev.congr (fun k => if_pos trivial) (Ev.now _)
  | true =>
    refine Ev.congr (fun k => if_pos rfl) (Ev_succ ?_)
    rw [Bool.true_and]
    simp only [spec_l03Is.j0]
    by_cases h : xs.length ≤ 200
    · rw [decide_eq_true h, Bool.true_and]
      exact Ev.congr (fun k => if_neg (by simp; omega)) (specTerms_ev p xs h hr xs.length 0 (by omega))
    · rw [decide_eq_false h, Bool.false_and]
      exact Ev.congr (fun k => if_pos (by simp; omega)) (Ev.now _)
theorem implTerms_ev (p : Int) (xs : List TI) (hl : xs.length ≤ 200) (hr : ∀ x ∈ xs, x.f0.length ≤ 1048576) (hw : ∀ x ∈ xs, ∀ n ∈ x.f0, (Lit.int .i64 n).wf = true) : ∀ d n, n + d = xs.length → Ev (fun k => impl_IsSum.l0 k xs (xs.length : Int) (n : Int) p xs) ((List.range' n d).all (okAt p xs)) := by
  intro d
  induction d with
  | zero =>
    intro n hn
    refine Ev_succ ?_
    simp only [impl_IsSum.l0]
    exact Ev.congr (fun k => if_neg (by omega)) (Ev.now _)
  | succ d ih =>
    intro n hn
    have hm : ∀ j, (xs.getD j z115).f0.length ≤ 1048576 := fun j => by
      rw [List.getD_eq_getElem?_getD]
      cases e : xs[j]? with
      | none => exact Nat.zero_le _
      | some l => exact hr l (List.mem_of_getElem? e)
    have hv : ∀ n' ∈ (xs.getD n z115).f0, (Lit.int .i64 n').wf = true := by
      rw [List.getD_eq_getElem?_getD, List.getElem?_eq_getElem (by omega)]
      exact hw _ (List.getElem_mem _)
    rw [List.range'_succ, List.all_cons]
    refine Ev_succ ?_
    simp only [impl_IsSum.l0]
    refine Ev.congr (fun k => if_pos (by omega)) (Ev.congr (fun k => if_pos (by omega)) (Ev.congr (fun k => if_pos (by omega)) ?_))
    rw [rdT]
    refine Ev.bind (isWord_ev _ hv) ?_
    unfold okAt
    cases h1 : isW (xs.getD n z115).f0 with
    | false => rw [Bool.false_and, Bool.false_and]; exact Ev.congr (fun k => if_neg (by simp)) (Ev.now _)
    | true =>
      refine Ev.congr (fun k => if_pos rfl) ?_
      rw [Bool.true_and, in_f]
      simp only [Option.bind_some]
      cases h2 : decide (1 ≤ (xs.getD n z115).f1 ∧ (xs.getD n z115).f1 ≤ wrap64 (p - 1)) with
      | false => rw [Bool.false_and, Bool.false_and]; exact Ev.congr (fun k => if_neg (by simp)) (Ev.now _)
      | true =>
        refine Ev.congr (fun k => if_pos rfl) ?_
        rw [Bool.true_and, wS (n := n) (by omega)]
        by_cases hz : n = 0
        · subst hz
          rw [show ((0 : Nat) == 0) = true from rfl, Bool.true_or, Bool.true_and]
          exact Ev.congr (fun k => if_neg (by omega)) (ih 1 (by omega))
        · rw [show (n == 0) = false from by simpa using hz, Bool.false_or]
          refine Ev.congr (fun k => if_pos (by omega)) ?_
          rw [show wrap64 ((n : Int) - 1) = ((n - 1 : Nat) : Int) from by unfold wrap64; omega]
          refine Ev.congr (fun k => if_pos (by omega)) (Ev.congr (fun k => if_pos (by omega)) ?_)
          rw [rdT]
          refine Ev.bind (order_ev _ _ (by have := hm (n - 1); omega) (by have := hm n; omega)) ?_
          by_cases h3 : wordO (xs.getD (n - 1) z115).f0 (xs.getD n z115).f0 < 0
          · rw [decide_eq_true h3, Bool.true_and]; exact Ev.congr (fun k => if_neg (by omega)) (ih (n + 1) (by omega))
          · rw [decide_eq_false h3, Bool.false_and]; exact Ev.congr (fun k => if_pos (by omega)) (Ev.now _)
theorem implSum_ev (p : Int) (xs : List TI) (hl : xs.length ≤ 1048576) (hr : ∀ x ∈ xs, x.f0.length ≤ 1048576) (hw : ∀ x ∈ xs, ∀ n ∈ x.f0, (Lit.int .i64 n).wf = true) : Ev (fun k => impl_IsSum.f k p xs) (sumB p xs) := by
  unfold impl_IsSum.f sumB
  refine Ev.bind (isPrime_ev p) ?_
  cases hp : primeB p with
  | false =>
    refine Ev.congr (fun k => if_neg (by simp)) (Ev_succ ?_)
    rw [Bool.false_and]
    simp only [impl_IsSum.j0]
    exact Ev.congr (fun k => if_pos trivial) (Ev.now _)
  | true =>
    refine Ev.congr (fun k => if_pos rfl) (Ev_succ ?_)
    rw [Bool.true_and]
    simp only [impl_IsSum.j0]
    by_cases h : xs.length ≤ 200
    · rw [decide_eq_true h, Bool.true_and]
      exact Ev.congr (fun k => if_neg (by simp; omega)) (implTerms_ev p xs h hr hw xs.length 0 (by omega))
    · rw [decide_eq_false h, Bool.false_and]
      exact Ev.congr (fun k => if_pos (by simp; omega)) (Ev.now _)
structure SmallT (xs : List TL) : Prop where
  len : xs.length ≤ 1048576
  row : ∀ x ∈ xs, x.f0.length ≤ 1048576
theorem SmallT.at {xs : List TL} (h : SmallT xs) (j : Nat) : (xs.getD j z131).f0.length ≤ 1048576 := by
  rw [List.getD_eq_getElem?_getD]
  cases e : xs[j]? with
  | none => exact Nat.zero_le _
  | some l => exact h.row l (List.mem_of_getElem? e)
theorem toT_ev (x : TL) (h : x.f0.length ≤ 1048576) : Ev (fun k => laws_toTerm.f k x.f0 x.f1) (x.f0, x.f1) := by
  unfold laws_toTerm.f
  exact Ev.bind (toS_ev _ (by omega)) (Ev.now _)
theorem toTS_ev {xs : List TL} (h : SmallT xs) : Ev (fun k => laws_toTermS.f k xs) (xs.map tI) := by
  have hl := h.len
  have key : ∀ d n, n + d = xs.length → Ev (fun k => laws_toTermS.l0 k xs ((xs.take n).map tI ++ List.replicate d z115) (n : Int)) (xs.map tI) := by
    intro d
    induction d with
    | zero =>
      intro n hn
      rw [List.take_of_length_le (by omega), List.replicate_zero, List.append_nil]
      refine Ev_succ ?_
      simp only [laws_toTermS.l0]
      exact Ev.congr (fun k => if_neg (by omega)) (Ev.now _)
    | succ d ih =>
      intro n hn
      have htl : ((xs.take n).map tI).length = n := by rw [List.length_map, List.length_take]; omega
      refine Ev_succ ?_
      simp only [laws_toTermS.l0]
      refine Ev.congr (fun k => if_pos (by omega)) (Ev.congr (fun k => if_pos (by omega)) ?_)
      rw [rdU]
      refine Ev.bind (toT_ev _ (h.at n)) ?_
      refine Ev.congr (fun k => if_pos (by rw [List.length_append, htl, List.length_replicate]; omega)) ?_
      have := ih (n + 1) (by omega)
      rw [Int.toNat_natCast, wS (n := n) (by omega), List.set_append_right _ _ (by omega), htl, Nat.sub_self, List.replicate_succ, List.set_cons_zero]
      have ht : (xs.take (n + 1)).map tI = (xs.take n).map tI ++ [tI (xs.getD n z131)] := by
        rw [List.take_succ_eq_append_getElem (by omega), List.map_append, List.getD_eq_getElem?_getD, List.getElem?_eq_getElem (by omega)]; rfl
      rw [ht, List.append_assoc] at this
      exact this
  have := key xs.length 0 (by omega)
  rw [List.take_zero, List.map_nil, List.nil_append] at this
  unfold laws_toTermS.f
  refine Ev.congr (fun k => if_pos (by omega)) (Ev.congr (fun k => if_pos (by omega)) ?_)
  rw [Int.toNat_natCast]
  exact this
theorem szT_f (x : TL) (y : Int) (hl : x.f0.length ≤ maxLen) (h0 : 0 ≤ y) (h1 : y ≤ 1048576) : laws_szTerm.f x.f0 x.f1 y = some (if (x.f0.length : Int) ≤ y then y - x.f0.length else -1) := by
  unfold laws_szTerm.f
  rw [szS_f _ _ hl h0 h1, Option.bind_some]
  by_cases h : (x.f0.length : Int) ≤ y
  · rw [if_pos h, if_neg (by omega)]
  · rw [if_neg h, if_pos (by omega)]
theorem szTS_ev (xs : List TL) (x : Int) (hl : xs.length ≤ maxLen) (hr : ∀ l ∈ xs, l.f0.length ≤ maxLen) (h0 : 0 ≤ x) (h1 : x ≤ 1048576) : ∃ t, Ev (fun k => laws_szTermS.f k xs x) t ∧ (0 ≤ t → SmallT xs) ∧ t ≤ 1048576 := by
  unfold maxLen at hl
  unfold laws_szTermS.f
  rw [show wrap64 (x - (xs.length : Int)) = x - xs.length from by unfold wrap64; omega]
  by_cases h : (xs.length : Int) ≤ x
  · have key : ∀ d n y, n + d = xs.length → 0 ≤ y → y ≤ 1048576 → ∃ t, Ev (fun k => laws_szTermS.l0 k xs y (n : Int)) t ∧ (0 ≤ t → ∀ l ∈ xs.drop n, l.f0.length ≤ 1048576) ∧ t ≤ 1048576 := by
      intro d
      induction d with
      | zero =>
        intro n y hn hy hy1
        refine ⟨y, ?_, fun _ => by rw [List.drop_of_length_le (by omega)]; simp, hy1⟩
        refine Ev_succ ?_
        simp only [laws_szTermS.l0]
        exact Ev.congr (fun k => if_neg (by omega)) (Ev.now _)
      | succ d ih =>
        intro n y hn hy hy1
        have hd : xs.drop n = xs.getD n z131 :: xs.drop (n + 1) := by rw [List.drop_eq_getElem_cons (by omega), List.getD_eq_getElem?_getD, List.getElem?_eq_getElem (by omega)]; rfl
        have hm : (xs.getD n z131).f0.length ≤ maxLen := hr _ (by rw [List.getD_eq_getElem?_getD, List.getElem?_eq_getElem (by omega)]; exact List.getElem_mem _)
        have hs := szT_f (xs.getD n z131) y hm hy hy1
        by_cases g : ((xs.getD n z131).f0.length : Int) ≤ y
        · obtain ⟨t, ht, hq, ht1⟩ := ih (n + 1) (y - (xs.getD n z131).f0.length) (by omega) (by omega) (by omega)
          refine ⟨t, ?_, fun h0 l hl' => ?_, ht1⟩
          · refine Ev_succ ?_
            simp only [laws_szTermS.l0]
            refine Ev.congr (fun k => if_pos (by omega)) (Ev.congr (fun k => if_pos (by omega)) ?_)
            rw [rdU, hs, if_pos g]
            simp only [Option.bind_some]
            rw [wS (n := n) (by omega)]
            exact Ev.congr (fun k => if_neg (by omega)) ht
          · rw [hd] at hl'
            rcases List.mem_cons.1 hl' with q | q
            · rw [q]; omega
            · exact hq h0 l q
        · refine ⟨-1, ?_, fun h0 => absurd h0 (by omega), by omega⟩
          refine Ev_succ ?_
          simp only [laws_szTermS.l0]
          refine Ev.congr (fun k => if_pos (by omega)) (Ev.congr (fun k => if_pos (by omega)) ?_)
          rw [rdU, hs, if_neg g]
          simp only [Option.bind_some]
          exact Ev.congr (fun k => if_pos (by omega)) (Ev.now _)
    obtain ⟨t, ht, hq, ht1⟩ := key xs.length 0 (x - xs.length) (by omega) (by omega) (by omega)
    exact ⟨t, Ev.congr (fun k => if_neg (by omega)) ht, fun h0 => ⟨by omega, fun l hl' => hq h0 l (by rw [List.drop_zero]; exact hl')⟩, ht1⟩
  · exact ⟨-1, Ev.congr (fun k => if_pos (by omega)) (Ev.now _), fun h0 => absurd h0 (by omega), by omega⟩
theorem szSum_ev (p : Int) (xs : List TL) (x : Int) (hl : xs.length ≤ maxLen) (hr : ∀ l ∈ xs, l.f0.length ≤ maxLen) (h0 : 0 ≤ x) (h1 : x ≤ 1048576) : ∃ t, Ev (fun k => laws_szSum.f k p xs x) t ∧ (0 ≤ t → SmallT xs) ∧ t ≤ 1048576 := by
  obtain ⟨t, ht, hq, h2⟩ := szTS_ev xs x hl hr h0 h1
  unfold laws_szSum.f
  by_cases g : t < 0
  · exact ⟨-1, Ev.bind ht (Ev.congr (fun k => if_pos g) (Ev.now _)), fun h => absurd h (by omega), by omega⟩
  · exact ⟨t, Ev.bind ht (Ev.congr (fun k => if_neg g) (Ev.now _)), hq, h2⟩
theorem toSum_ev (p : Int) {xs : List TL} (h : SmallT xs) : Ev (fun k => laws_toSum.f k p xs) (p, xs.map tI) := by
  unfold laws_toSum.f
  exact Ev.bind (toTS_ev h) (Ev.now _)
theorem eqT_ev (x y : TI) (h : x.f0.length ≤ 1048576) : Ev (fun k => laws_eqTerm.f k x.f0 x.f1 y.f0 y.f1) (decide (prI x = prI y)) := by
  unfold laws_eqTerm.f prI
  refine Ev.bind (eqS_ev _ _ (by omega)) ?_
  by_cases g : x.f0 = y.f0
  · refine Ev.congr (fun k => if_pos (decide_eq_true g)) ?_
    by_cases e : x.f1 = y.f1
    · rw [decide_eq_true (by rw [g, e])]
      exact Ev.congr (fun k => if_pos e) (Ev.now _)
    · rw [decide_eq_false (fun h => e (Prod.mk.inj h).2)]
      exact Ev.congr (fun k => if_neg e) (Ev.now _)
  · rw [decide_eq_false (fun h => g (Prod.mk.inj h).1)]
    exact Ev.congr (fun k => if_neg (by simpa using g)) (Ev.now _)
theorem eqTS_ev {a b : List TI} (hl : a.length ≤ 1048576) (ha : ∀ x ∈ a, x.f0.length ≤ 1048576) : Ev (fun k => laws_eqTermS.f k a b) (decide (a.map prI = b.map prI)) := by
  unfold laws_eqTermS.f
  by_cases e : a.length = b.length
  · refine Ev.congr (fun k => if_pos (by omega)) ?_
    have key : ∀ d n, n + d = a.length → Ev (fun k => laws_eqTermS.l0 k a b (n : Int)) (decide ((a.drop n).map prI = (b.drop n).map prI)) := by
      intro d
      induction d with
      | zero =>
        intro n hn
        rw [List.drop_of_length_le (by omega), List.drop_of_length_le (by omega)]
        refine Ev_succ ?_
        simp only [laws_eqTermS.l0]
        exact Ev.congr (fun k => if_neg (by omega)) (Ev.now _)
      | succ d ih =>
        intro n hn
        have h1 : a.drop n = a.getD n z115 :: a.drop (n + 1) := by rw [List.drop_eq_getElem_cons (by omega), List.getD_eq_getElem?_getD, List.getElem?_eq_getElem (by omega)]; rfl
        have h2 : b.drop n = b.getD n z115 :: b.drop (n + 1) := by rw [List.drop_eq_getElem_cons (by omega), List.getD_eq_getElem?_getD, List.getElem?_eq_getElem (by omega)]; rfl
        have hm : (a.getD n z115).f0.length ≤ 1048576 := ha _ (by rw [List.getD_eq_getElem?_getD, List.getElem?_eq_getElem (by omega)]; exact List.getElem_mem _)
        refine Ev_succ ?_
        simp only [laws_eqTermS.l0]
        refine Ev.congr (fun k => if_pos (by omega)) (Ev.congr (fun k => if_pos (by omega)) (Ev.congr (fun k => if_pos (by omega)) ?_))
        rw [rdT, rdT]
        refine Ev.bind (eqT_ev _ _ hm) ?_
        rw [wS (n := n) (by omega), h1, h2, List.map_cons, List.map_cons]
        by_cases g : prI (a.getD n z115) = prI (b.getD n z115)
        · refine Ev.congr (fun k => if_pos (decide_eq_true g)) ?_
          have := ih (n + 1) (by omega)
          rw [g, show decide (prI (b.getD n z115) :: (a.drop (n + 1)).map prI = prI (b.getD n z115) :: (b.drop (n + 1)).map prI) = decide ((a.drop (n + 1)).map prI = (b.drop (n + 1)).map prI) from by simp]
          exact this
        · rw [decide_eq_false (fun h => g (List.cons.inj h).1)]
          exact Ev.congr (fun k => if_neg (by simpa using g)) (Ev.now _)
    have := key a.length 0 (by omega)
    rw [List.drop_zero, List.drop_zero] at this
    exact this
  · refine Ev.congr (fun k => if_neg (by omega)) ?_
    rw [decide_eq_false (fun h => e (by have := congrArg List.length h; simpa using this))]
    exact Ev.now _
theorem eqSum_ev (p q : Int) {a b : List TI} (hl : a.length ≤ 1048576) (ha : ∀ x ∈ a, x.f0.length ≤ 1048576) : Ev (fun k => laws_eqSum.f k p a q b) (decide (p = q ∧ a.map prI = b.map prI)) := by
  unfold laws_eqSum.f
  by_cases e : p = q
  · refine Ev.congr (fun k => if_pos e) (Ev.bind (eqTS_ev hl ha) ?_)
    by_cases g : a.map prI = b.map prI
    · rw [decide_eq_true (show p = q ∧ a.map prI = b.map prI from ⟨e, g⟩)]
      exact Ev.congr (fun k => if_pos (decide_eq_true g)) (Ev.now _)
    · rw [decide_eq_false (show ¬ (p = q ∧ a.map prI = b.map prI) from fun h => g h.2)]
      exact Ev.congr (fun k => if_neg (by simpa using g)) (Ev.now _)
  · rw [decide_eq_false (fun h => e h.1)]
    exact Ev.congr (fun k => if_neg e) (Ev.now _)
theorem SmallT.mapped {xs : List TL} (h : SmallT xs) : (xs.map tI).length ≤ 1048576 ∧ ∀ x ∈ xs.map tI, x.f0.length ≤ 1048576 := by
  refine ⟨by rw [List.length_map]; exact h.len, fun x hx => ?_⟩
  obtain ⟨y, hy, rfl⟩ := List.mem_map.1 hx
  exact h.row y hy
end Go.Proofs.Ytmeggliapebkgaa.Pure
end
section
namespace Go.Proofs.Ytmeggliapebkgaa.Pure
open Go.RowKit Go.Proofs.Ytmeggliapebkgaa.F Go.Proofs.Ytmeggliapebkgaa.Web Go.Proofs.YtmeggliapebkgaaW.PrintWords Go.Proofs.YtmeggliapebkgaaW.PrintLast
theorem isWeb_g {l : List Int} {L : List (List Int)} (hl : l.length ≤ 1048576) (hL : Small L) (w0 : ∀ x ∈ l, (Lit.int .i64 x).wf = true) (w1 : ∀ m ∈ L, ∀ x ∈ m, (Lit.int .i64 x).wf = true) : impl_IsWeb.f l L = some (isWebC l L) := by
  have := hL.len
  unfold impl_IsWeb.f
  rw [if_pos ⟨by omega, by omega, wf_inc w0 w1⟩]
theorem szWeb_at (l : List Int) (L : List (List Int)) (x : Int) (hl : l.length ≤ maxLen) (hL : L.length ≤ maxLen) (hr : ∀ l ∈ L, l.length ≤ maxLen) (h0 : 0 ≤ x) (h1 : x ≤ 1048576) : ∃ t, Ev (fun k => laws_szWeb.f k l L x) t ∧ (0 ≤ t → l.length ≤ 1048576 ∧ Small L) := by
  unfold laws_szWeb.f
  rw [szS_f l x hl h0 h1]
  simp only [Option.bind_some]
  by_cases h : (l.length : Int) ≤ x
  · rw [if_pos h]
    obtain ⟨t, ht, hq, _⟩ := szSS_ev L (x - l.length) hL hr (by omega) (by omega)
    by_cases g : t < 0
    · refine ⟨-1, ?_, fun h0 => absurd h0 (by omega)⟩
      refine Ev.congr (fun k => if_neg (by omega)) (Ev.bind ht ?_)
      exact Ev.congr (fun k => if_pos g) (Ev.now _)
    · refine ⟨t, ?_, fun h0 => ⟨by omega, hq h0⟩⟩
      refine Ev.congr (fun k => if_neg (by omega)) (Ev.bind ht ?_)
      exact Ev.congr (fun k => if_neg g) (Ev.now _)
  · rw [if_neg h]
    exact ⟨-1, Ev.congr (fun k => if_pos (by omega)) (Ev.now _), fun h0 => absurd h0 (by omega)⟩
theorem szDesk_ev (l : List Int) (p : Int) (xs : List TL) (m : List Int) (L : List (List Int)) (hl : l.length ≤ maxLen) (hx : xs.length ≤ maxLen) (hxr : ∀ t ∈ xs, t.f0.length ≤ maxLen) (hm : m.length ≤ maxLen) (hL : L.length ≤ maxLen) (hr : ∀ l ∈ L, l.length ≤ maxLen) : ∃ t, Ev (fun k => laws_szDesk.f k l p xs m L 1048576) t ∧ (0 ≤ t → l.length ≤ 1048576 ∧ SmallT xs ∧ m.length ≤ 1048576 ∧ Small L) := by
  unfold laws_szDesk.f
  rw [szS_f l 1048576 hl (by omega) (by omega)]
  simp only [Option.bind_some]
  by_cases h : (l.length : Int) ≤ 1048576
  · rw [if_pos h]
    obtain ⟨t, ht, hq, h2⟩ := szSum_ev p xs (1048576 - l.length) hx hxr (by omega) (by omega)
    by_cases g : t < 0
    · exact ⟨-1, Ev.congr (fun k => if_neg (by omega)) (Ev.bind ht (Ev.congr (fun k => if_pos g) (Ev.now _))), fun h0 => absurd h0 (by omega)⟩
    · obtain ⟨t2, ht2, hq2⟩ := szWeb_at m L t hm hL hr (by omega) h2
      by_cases g2 : t2 < 0
      · exact ⟨-1, Ev.congr (fun k => if_neg (by omega)) (Ev.bind ht (Ev.congr (fun k => if_neg g) (Ev.bind ht2 (Ev.congr (fun k => if_pos g2) (Ev.now _))))), fun h0 => absurd h0 (by omega)⟩
      · exact ⟨t2, Ev.congr (fun k => if_neg (by omega)) (Ev.bind ht (Ev.congr (fun k => if_neg g) (Ev.bind ht2 (Ev.congr (fun k => if_neg g2) (Ev.now _))))), fun h0 => ⟨by omega, hq (by omega), hq2 h0⟩⟩
  · rw [if_neg h]
    exact ⟨-1, Ev.congr (fun k => if_pos (by omega)) (Ev.now _), fun h0 => absurd h0 (by omega)⟩
theorem toDesk_ev (l : List Int) (p : Int) {xs : List TL} {m : List Int} {L : List (List Int)} (hl : l.length ≤ 1048576) (hx : SmallT xs) (hm : m.length ≤ 1048576) (hL : Small L) : Ev (fun k => laws_toDesk.f k l p xs m L) (l, p, xs.map tI, m, L) := by
  unfold laws_toDesk.f
  exact Ev.bind (toS_ev l (by omega)) (Ev.bind (toSum_ev p hx) (Ev.bind (toWeb_ev hm hL) (Ev.now _)))
theorem eqDesk_same (l : List Int) (p : Int) {xs : List TI} {m : List Int} {L : List (List Int)} (hl : l.length ≤ 1048576) (hx : xs.length ≤ 1048576) (hxr : ∀ x ∈ xs, x.f0.length ≤ 1048576) (hm : m.length ≤ 1048576) (hL : Small L) : Ev (fun k => laws_eqDesk.f k l p xs m L l p xs m L) true := by
  unfold laws_eqDesk.f
  refine Ev.bind (eqS_ev l l (by omega)) (Ev.congr (fun k => if_pos (decide_eq_true rfl)) ?_)
  refine Ev.bind (eqSum_ev p p hx hxr) (Ev.congr (fun k => if_pos (decide_eq_true ⟨rfl, rfl⟩)) ?_)
  exact Ev.bind (eqWeb_same hm hL) (Ev.congr (fun k => if_pos rfl) (Ev.now _))
def deskB (l : List Int) (p : Int) (xs : List TI) (m : List Int) (L : List (List Int)) : Bool := isW l && (sumB p xs && isWebC m L)
theorem specDesk_ev (l : List Int) (p : Int) {xs : List TI} {m : List Int} {L : List (List Int)} (hx : xs.length ≤ 1048576) (hxr : ∀ x ∈ xs, x.f0.length ≤ 1048576) (hm : m.length ≤ 1048576) (hL : Small L) : Ev (fun k => spec_IsDesk.f k l p xs m L) (deskB l p xs m L) := by
  unfold spec_IsDesk.f deskB
  refine Ev.bind (is_ev l) ?_
  cases isW l with
  | false => exact Ev.congr (fun k => if_neg (by simp)) (Ev.now _)
  | true =>
    refine Ev.congr (fun k => if_pos rfl) (Ev.bind (specSum_ev p xs hx hxr) ?_)
    cases sumB p xs with
    | false => exact Ev.congr (fun k => if_neg (by simp)) (Ev.now _)
    | true => exact Ev.congr (fun k => if_pos rfl) (Ev.bind (specIs_C hm hL) (Ev.now _))
theorem implDesk_ev (l : List Int) (p : Int) {xs : List TI} {m : List Int} {L : List (List Int)} (wl : ∀ n ∈ l, (Lit.int .i64 n).wf = true) (hx : xs.length ≤ 1048576) (hxr : ∀ x ∈ xs, x.f0.length ≤ 1048576) (wx : ∀ x ∈ xs, ∀ n ∈ x.f0, (Lit.int .i64 n).wf = true) (hm : m.length ≤ 1048576) (hL : Small L) (w0 : ∀ x ∈ m, (Lit.int .i64 x).wf = true) (w1 : ∀ f ∈ L, ∀ x ∈ f, (Lit.int .i64 x).wf = true) : Ev (fun k => impl_IsDesk.f k l p xs m L) (deskB l p xs m L) := by
  unfold impl_IsDesk.f deskB
  refine Ev.bind (isWord_ev l wl) ?_
  cases isW l with
  | false => exact Ev.congr (fun k => if_neg (by simp)) (Ev.now _)
  | true =>
    refine Ev.congr (fun k => if_pos rfl) (Ev.bind (implSum_ev p xs hx hxr wx) ?_)
    cases sumB p xs with
    | false => exact Ev.congr (fun k => if_neg (by simp)) (Ev.now _)
    | true =>
      refine Ev.congr (fun k => if_pos rfl) ?_
      rw [isWeb_g hm hL w0 w1]
      exact Ev.now _
theorem FnExactIsDesk (l : List Int) (p : Int) (xs : List TL) (m : List Int) (L : List (List Int)) (hl : l.length ≤ maxLen) (wl : ∀ n ∈ l, (Lit.int .i64 n).wf = true) (hx : xs.length ≤ maxLen) (hxr : ∀ t ∈ xs, t.f0.length ≤ maxLen ∧ (∀ n ∈ t.f0, (Lit.int .i64 n).wf = true)) (hm : m.length ≤ maxLen) (hL : L.length ≤ maxLen) (wm : ∀ x ∈ m, (Lit.int .i64 x).wf = true) (w1 : ∀ f ∈ L, f.length ≤ maxLen ∧ ∀ x ∈ f, (Lit.int .i64 x).wf = true) : ∃ k, laws_FnExactIsDesk.f k l p xs m L = some true := by
  unfold laws_FnExactIsDesk.f
  refine ⟨0, if_pos ?_⟩
  obtain ⟨t, ht, hq⟩ := szDesk_ev l p xs m L hl hx (fun t h => (hxr t h).1) hm hL (fun f hf => (w1 f hf).1)
  obtain ⟨k0, e0⟩ := ht.rounds
  by_cases g : t < 0
  · exact .inl ⟨k0, t, e0, g⟩
  · obtain ⟨q1, q2, q3, q4⟩ := hq (by omega)
    obtain ⟨r1, r2⟩ := q2.mapped
    have wx : ∀ x ∈ xs.map tI, ∀ n ∈ x.f0, (Lit.int .i64 n).wf = true := fun x h => by
      obtain ⟨y, hy, rfl⟩ := List.mem_map.1 h
      exact (hxr y hy).2
    obtain ⟨k1, e1⟩ := (toDesk_ev l p q1 q2 q3 q4).rounds
    obtain ⟨k2, e2⟩ := (specDesk_ev l p r1 r2 q3 q4).rounds
    obtain ⟨k3, e3⟩ := (implDesk_ev l p wl r1 r2 wx q3 q4 wm (fun f hf => (w1 f hf).2)).rounds
    obtain ⟨k4, e4⟩ := (eqDesk_same l p q1 r1 r2 q3 q4).rounds
    exact .inr ⟨k0, k1, k2, k3, k4, t, _, _, e0, by omega, e1, e2, e3, e4⟩
end Go.Proofs.Ytmeggliapebkgaa.Pure
end
section
namespace Go.Proofs.Ytmeggliapebkgaa.Open
open Go.ChangeShapes Go.WideShapes Go.RowKit Go.Joins Go.Deep Go.Proofs.YtmeggliapebkgaaW.PrintWords
theorem row_open {w : World} {P : Program} {H : Type} {enc : TypeId × Value → H} {t e : TypeId} {fuel : Nat} {v : Value} {x : DataW H × List MemPlace} (ht : P.underlying t = some (.slice e)) (he : P.underlying e = some (.int .i64)) (ce : P.cellsOf e = 1)
    (h : DataW.trod enc P w 0 (fun _ => true) true fuel t [v] = some x) : ∃ (A : Option Addr) (c : Nat) (l : List Int), v = .slice A l.length c ∧ Kd.C (Kd.int .i64) w A l.length l ∧ l.length ≤ c ∧ l.length ≤ maxLen ∧ ∀ n ∈ l, (Lit.int .i64 n).wf = true := by
  rcases open_ints ht he ce h with ⟨hcs, _⟩ | ⟨a, l, c, zs, hcs, _, hl, hm, hz, _, hcell, hwz⟩
  · obtain rfl : v = .slice none 0 0 := by simpa using hcs
    refine ⟨none, 0, [], rfl, ⟨rfl, Nat.zero_le _, fun hp => absurd hp (Nat.lt_irrefl _)⟩, Nat.le_refl _, Nat.zero_le _, by simp⟩
  · obtain rfl : v = .slice (some a) l c := by simpa using hcs
    simp only [if_true] at hz
    obtain ⟨l0, hll, hr0, hm0, hw0, hc0⟩ := ReadsInt.ofRowC (w := w) (k := .i64) (a := some a) (len := l) (cap := c) (zs := zs) (.inr ⟨a, rfl, hl, hm, hz, hcell, hwz⟩)
    subst hll
    exact ⟨some a, c, l0, rfl, Kd.C_of_reads (d := (0 : Int)) (h1 := fun _ => rfl) hr0, hc0, hm0, hw0⟩
theorem rows_open {w : World} {P : Program} {H : Type} {enc : TypeId × Value → H} {t e q : TypeId} {fuel : Nat} {v : Value} {x : DataW H × List MemPlace} (ht : P.underlying t = some (.slice e)) (he : P.underlying e = some (.slice q)) (hq : P.underlying q = some (.int .i64)) (ce : P.cellsOf e = 1) (cq : P.cellsOf q = 1)
    (h : DataW.trod enc P w 0 (fun _ => true) true fuel t [v] = some x) : ∃ (A : Option Addr) (c : Nat) (L : List (List Int)), v = .slice A L.length c ∧ Kd.C (Kd.slice q (Kd.int .i64)) w A L.length L ∧ L.length ≤ c ∧ L.length ≤ maxLen ∧ ∀ l ∈ L, l.length ≤ maxLen ∧ ∀ n ∈ l, (Lit.int .i64 n).wf = true := by
  rcases open_slice1 ht ce h with ⟨hcs, _⟩ | ⟨a, len, cap, m, n, V, D, Pl, hcs, _, hl, hm, hmm, _, hx⟩
  · obtain rfl : v = .slice none 0 0 := by simpa using hcs
    refine ⟨none, 0, [], rfl, ⟨rfl, Nat.zero_le _, fun hp => absurd hp (Nat.lt_irrefl _)⟩, Nat.le_refl _, Nat.zero_le _, by simp⟩
  · obtain rfl : v = .slice (some a) len cap := by simpa using hcs
    simp only [if_true] at hmm
    subst hmm
    have each : ∀ r, r < len → ∃ y : Option Addr × Nat × List Int, V r = .slice y.1 y.2.2.length y.2.1 ∧ Kd.C (Kd.int .i64) w y.1 y.2.2.length y.2.2 ∧ y.2.2.length ≤ y.2.1 ∧ y.2.2.length ≤ maxLen ∧ ∀ n ∈ y.2.2, (Lit.int .i64 n).wf = true := by
      intro r hr
      obtain ⟨A, c, l, h1, h2, h3, h4, h5⟩ := row_open he hq cq (hx r (by omega)).2
      exact ⟨(A, c, l), h1, h2, h3, h4, h5⟩
    obtain ⟨y, hy⟩ := choose_lt each
    have hlen : ((List.range len).map fun r => (y r).2.2).length = len := by simp
    have hm' := hm
    unfold maxLen at hm'
    refine ⟨some a, m, (List.range len).map fun r => (y r).2.2, by rw [hlen], ?_, by rw [hlen]; exact hl, by rw [hlen]; omega, fun l hl' => ?_⟩
    · refine ⟨rfl, by rw [hlen]; omega, fun _ => ⟨a, rfl, fun j p hj => ?_⟩⟩
      obtain ⟨hj1, hj2⟩ := List.getElem?_eq_some_iff.1 hj
      have hjl : j < len := by rw [hlen] at hj1; exact hj1
      rw [List.getElem_map, List.getElem_range] at hj2
      obtain ⟨h1, h2, h3, _, _⟩ := hy j hjl
      rw [hj2] at h1 h2 h3
      refine ⟨[V j], rfl, ?_, fun i u hu => ?_⟩
      · rw [h1]; exact ⟨_, _, rfl, h3, h2⟩
      · cases i with
        | zero =>
          rw [show (Kd.slice q (Kd.int .i64)).sz = 1 from rfl, Nat.mul_one, Nat.add_zero]
          rw [(hx j (by omega)).1]
          simpa using hu
        | succ i => simp at hu
    · obtain ⟨r, hr, rfl⟩ := List.mem_map.1 hl'
      have := hy r (List.mem_range.1 hr)
      exact ⟨this.2.2.2.1, this.2.2.2.2⟩
end Go.Proofs.Ytmeggliapebkgaa.Open
end
section
namespace Go.Proofs.Ytmeggliapebkgaa.Open
open Go.ChangeShapes Go.WideShapes Go.RowKit Go.Joins Go.Deep Go.Proofs.Ytmeggliapebkgaa.F Go.Proofs.YtmeggliapebkgaaW.PrintWords Go.Proofs.YtmeggliapebkgaaW.PrintLast
theorem array5 {α : Type} {cs : Array α} (h : cs.size = 5) : ∃ c0 c1 c2 c3 c4, cs = #[c0, c1, c2, c3, c4] := by
  obtain ⟨l⟩ := cs
  match l, h with
  | [c0, c1, c2, c3, c4], _ => exact ⟨c0, c1, c2, c3, c4, rfl⟩
theorem terms_open {w : World} {H : Type} {enc : TypeId × Value → H} {fuel : Nat} {v : Value} {x : DataW H × List MemPlace} (h : DataW.trod enc Try.prog w 0 (fun _ => true) true fuel 37 [v] = some x) :
    ∃ (A : Option Addr) (c : Nat) (l : List S131), v = .slice A l.length c ∧ Kd.C k131 w A l.length l ∧ l.length ≤ c ∧ l.length ≤ maxLen ∧ ∀ y ∈ l, y.f0.length ≤ maxLen ∧ (∀ n ∈ y.f0, (Lit.int .i64 n).wf = true) ∧ (Lit.int .i64 y.f1).wf = true := by
  rcases open_slice_pairs Try.underlying37 Try.underlying131 (by kernel_rfl) rfl rfl (by kernel_rfl) (by kernel_rfl) h with ⟨hcs, _⟩ | ⟨a, len, cap, m, n, V0, V1, D0, D1, P0, P1, hcs, _, hl, hm, hmm, _, hx⟩
  · obtain rfl : v = .slice none 0 0 := by simpa using hcs
    refine ⟨none, 0, [], rfl, ⟨rfl, Nat.zero_le _, fun hp => absurd hp (Nat.lt_irrefl _)⟩, Nat.le_refl _, Nat.zero_le _, by simp⟩
  · obtain rfl : v = .slice (some a) len cap := by simpa using hcs
    simp only [if_true] at hmm
    subst hmm
    have each : ∀ r, r < len → ∃ y : Option Addr × Nat × List Int × Int, V0 r = .slice y.1 y.2.2.1.length y.2.1 ∧ Kd.C (Kd.int .i64) w y.1 y.2.2.1.length y.2.2.1 ∧ y.2.2.1.length ≤ y.2.1 ∧ y.2.2.1.length ≤ maxLen ∧ (∀ n ∈ y.2.2.1, (Lit.int .i64 n).wf = true) ∧ V1 r = .int .i64 y.2.2.2 ∧ (Lit.int .i64 y.2.2.2).wf = true := by
      intro r hr
      obtain ⟨_, _, t0, t1⟩ := hx r (by omega)
      obtain ⟨A, c, l, h1, h2, h3, h4, h5⟩ := row_open (e := 2) Try.underlying22 Try.underlying2 (by kernel_rfl) t0
      obtain ⟨z, g1, _, g2⟩ := DataW.trod_int (k := .i64) Try.underlying2 t1
      exact ⟨(A, c, l, z), h1, h2, h3, h4, h5, by simpa using g1, g2⟩
    obtain ⟨y, hy⟩ := choose_lt each
    have hlen : ((List.range len).map fun r => (⟨(y r).2.2.1, (y r).2.2.2⟩ : S131)).length = len := by simp
    have hm' := hm
    unfold maxLen at hm'
    refine ⟨some a, m, (List.range len).map fun r => (⟨(y r).2.2.1, (y r).2.2.2⟩ : S131), by rw [hlen], ?_, by rw [hlen]; exact hl, by rw [hlen]; omega, fun l hl' => ?_⟩
    · refine ⟨rfl, by rw [hlen]; omega, fun _ => ⟨a, rfl, fun j p hj => ?_⟩⟩
      obtain ⟨hj1, hj2⟩ := List.getElem?_eq_some_iff.1 hj
      have hjl : j < len := by rw [hlen] at hj1; exact hj1
      rw [List.getElem_map, List.getElem_range] at hj2
      obtain ⟨h1, h2, h3, _, _, h6, _⟩ := hy j hjl
      obtain ⟨c0, c1, _, _⟩ := hx j (by omega)
      subst hj2
      refine ⟨[V0 j, V1 j], rfl, ?_, fun i u hu => ?_⟩
      · rw [h1, h6]; exact ⟨[_], [_], rfl, ⟨_, _, rfl, h3, h2⟩, rfl⟩
      · rw [show (k131).sz = 2 from rfl]
        match i, hu with
        | 0, hu => rw [Nat.add_zero, c0]; simpa using hu
        | 1, hu => rw [c1]; simpa using hu
        | i + 2, hu => simp at hu
    · obtain ⟨r, hr, rfl⟩ := List.mem_map.1 hl'
      obtain ⟨_, _, _, h4, h5, _, h7⟩ := hy r (List.mem_range.1 hr)
      exact ⟨h4, h5, h7⟩
set_option maxRecDepth 100000 in
theorem desk_open {w : World} {H : Type} {enc : TypeId × Value → H} {r : Reach} {b0 : Nat} {v : Value} {d : DataW H} {p : List MemPlace} (hv : Value.okWide Try.prog w r b0 41 v) (h : DataW.Trod enc Try.prog w 0 (fun _ => true) true 41 v d p) :
    ∃ (A0 : Option Addr) (c0 : Nat) (l : List Int) (q : Int) (A2 : Option Addr) (c2 : Nat) (xs : List S131) (A3 : Option Addr) (c3 : Nat) (m : List Int) (A4 : Option Addr) (c4 : Nat) (L : List (List Int)),
      v = .agg #[.slice A0 l.length c0, .int .i64 q, .slice A2 xs.length c2, .slice A3 m.length c3, .slice A4 L.length c4] ∧ Kd.C (Kd.int .i64) w A0 l.length l ∧ l.length ≤ c0 ∧ Kd.C k131 w A2 xs.length xs ∧ xs.length ≤ c2 ∧ Kd.C (Kd.int .i64) w A3 m.length m ∧ m.length ≤ c3 ∧ Kd.C (Kd.slice 2 (Kd.int .i64)) w A4 L.length L ∧ L.length ≤ c4 ∧
      l.length ≤ maxLen ∧ (∀ n ∈ l, (Lit.int .i64 n).wf = true) ∧ xs.length ≤ maxLen ∧ (∀ y ∈ xs, y.f0.length ≤ maxLen ∧ (∀ n ∈ y.f0, (Lit.int .i64 n).wf = true)) ∧ m.length ≤ maxLen ∧ L.length ≤ maxLen ∧ (∀ n ∈ m, (Lit.int .i64 n).wf = true) ∧ (∀ f ∈ L, f.length ≤ maxLen ∧ ∀ n ∈ f, (Lit.int .i64 n).wf = true) := by
  obtain ⟨cs, rfl, hsz⟩ := okWide_struct Try.underlying41 hv
  have hC : Try.prog.cellsOf 41 = 5 := by kernel_rfl
  obtain ⟨v0, v1, v2, v3, v4, rfl⟩ := array5 (hsz.trans hC)
  obtain ⟨fuel, hf⟩ := h
  obtain ⟨y0, y1, y2, n, _, _, g0, g1, g2⟩ := trod_struct3 Try.underlying41 hf
  have z0 : Try.prog.cellsOf 22 = 1 := by kernel_rfl
  have z1 : Try.prog.cellsOf 39 = 2 := by kernel_rfl
  have z2 : Try.prog.cellsOf 25 = 2 := by kernel_rfl
  have z3 : Try.prog.cellsOf 2 = 1 := by kernel_rfl
  have z4 : Try.prog.cellsOf 37 = 1 := by kernel_rfl
  have z5 : Try.prog.cellsOf 23 = 1 := by kernel_rfl
  dsimp only at g0 g1 g2
  rw [z0] at g0
  rw [z1] at g1
  rw [z2] at g2
  simp only [Value.cells, List.drop_zero, List.drop_succ_cons, List.take_succ_cons, List.take_zero] at g0 g1 g2
  obtain ⟨A0, c0, l, rfl, a1, a2, a3, a4⟩ := row_open (e := 2) Try.underlying22 Try.underlying2 (by kernel_rfl) g0
  obtain ⟨u0, u1, _, _, _, e0, e1⟩ := trod_struct2 Try.underlying39 g1
  obtain ⟨w0, w1, _, _, _, e2, e3⟩ := trod_struct2 Try.underlying25 g2
  dsimp only at e0 e1 e2 e3
  rw [z3] at e0
  rw [z4] at e1
  rw [z0] at e2
  rw [z5] at e3
  simp only [List.drop_zero, List.drop_succ_cons, List.take_succ_cons, List.take_zero] at e0 e1 e2 e3
  obtain ⟨q, h1, _, _⟩ := DataW.trod_int (k := .i64) Try.underlying2 e0
  obtain rfl : v1 = .int .i64 q := by simpa using h1
  obtain ⟨A2, c2, xs, rfl, b1, b2, b3, b4⟩ := terms_open e1
  obtain ⟨A3, c3, m, rfl, d1, d2, d3, d4⟩ := row_open (e := 2) Try.underlying22 Try.underlying2 (by kernel_rfl) e2
  obtain ⟨A4, c4, L, rfl, f1, f2, f3, f4⟩ := rows_open (e := 22) (q := 2) Try.underlying23 Try.underlying22 Try.underlying2 (by kernel_rfl) (by kernel_rfl) e3
  exact ⟨A0, c0, l, q, A2, c2, xs, A3, c3, m, A4, c4, L, rfl, a1, a2, b1, b2, d1, d2, f1, f2, a3, a4, b3, fun y hy => ⟨(b4 y hy).1, (b4 y hy).2.1⟩, d3, f3, d4, f4⟩
end Go.Proofs.Ytmeggliapebkgaa.Open
end
section
namespace Go.Proofs.Ytmeggliapebkgaa.Head
open Go
set_option maxRecDepth 100000
theorem and_ok {a b : Bool} (ha : a = true) (hb : b = true) : (a && b) = true := by rw [ha, hb]; rfl
theorem signs : Try.prog.initOrder.toList = [104, 97, 114, 110, 101, 115, 115, 32, 52, 97, 50, 56, 99, 52, 53, 98, 50, 98, 51, 48, 99, 53, 53, 55, 55, 49, 101, 101, 101, 57, 56, 102, 52, 48, 98, 101, 48, 53, 56, 51, 99, 52, 49, 102, 99, 50, 54, 102, 54, 50, 102, 98, 99, 55, 56, 49, 57, 48, 52, 101, 50, 56, 100, 54, 100, 53, 51, 55, 48, 98, 98, 100, 32, 99, 117, 116, 32, 97, 116, 32, 108, 111, 111, 112, 46, 101, 120, 97, 109, 112, 108, 101, 47, 103, 48, 49, 51, 48, 51, 47, 108, 97, 119, 115, 46, 70, 110, 69, 120, 97, 99, 116, 84, 104, 114, 101, 101, 87, 101, 98, 115, 32, 108, 111, 111, 112, 46, 101, 120, 97, 109, 112, 108, 101, 47, 103, 48, 49, 51, 48, 51, 47, 108, 97, 119, 115, 46, 70, 110, 69, 120, 97, 99, 116, 73, 115, 68, 101, 115, 107, 32, 108, 111, 111, 112, 46, 101, 120, 97, 109, 112, 108, 101, 47, 103, 48, 49, 51, 48, 51, 47, 108, 97, 119, 115, 46, 70, 110, 69, 120, 97, 99, 116, 73, 110, 116, 101, 114, 108, 97, 99, 101, 80, 111, 108, 121, 110, 111, 109, 105, 97, 108, 32, 108, 111, 111, 112, 46, 101, 120, 97, 109, 112, 108, 101, 47, 103, 48, 49, 51, 48, 51, 47, 108, 97, 119, 115, 46, 70, 110, 69, 120, 97, 99, 116, 86, 97, 108, 117, 101, 79, 102, 73, 110, 116, 101, 114, 108, 97, 99, 101, 32, 108, 111, 111, 112, 46, 101, 120, 97, 109, 112, 108, 101, 47, 103, 48, 49, 51, 48, 51, 47, 108, 97, 119, 115, 46, 70, 110, 69, 120, 97, 99, 116, 67, 111, 109, 109, 117, 116, 97, 116, 111, 114, 79, 102, 32, 108, 111, 111, 112, 46, 101, 120, 97, 109, 112, 108, 101, 47, 103, 48, 49, 51, 48, 51, 47, 108, 97, 119, 115, 46, 70, 110, 69, 120, 97, 99, 116, 76, 111, 103, 97, 114, 105, 116, 104, 109, 79, 102, 32, 108, 111, 111, 112, 46, 101, 120, 97, 109, 112, 108, 101, 47, 103, 48, 49, 51, 48, 51, 47, 108, 97, 119, 115, 46, 70, 110, 69, 120, 97, 99, 116, 69, 120, 112, 111, 110, 101, 110, 116, 105, 97, 108, 79, 102].map Char.ofNat := by
  have h : Try.prog.initOrder = String.ofList ([104, 97, 114, 110, 101, 115, 115, 32, 52, 97, 50, 56, 99, 52, 53, 98, 50, 98, 51, 48, 99, 53, 53, 55, 55, 49, 101, 101, 101, 57, 56, 102, 52, 48, 98, 101, 48, 53, 56, 51, 99, 52, 49, 102, 99, 50, 54, 102, 54, 50, 102, 98, 99, 55, 56, 49, 57, 48, 52, 101, 50, 56, 100, 54, 100, 53, 51, 55, 48, 98, 98, 100, 32, 99, 117, 116, 32, 97, 116, 32, 108, 111, 111, 112, 46, 101, 120, 97, 109, 112, 108, 101, 47, 103, 48, 49, 51, 48, 51, 47, 108, 97, 119, 115, 46, 70, 110, 69, 120, 97, 99, 116, 84, 104, 114, 101, 101, 87, 101, 98, 115, 32, 108, 111, 111, 112, 46, 101, 120, 97, 109, 112, 108, 101, 47, 103, 48, 49, 51, 48, 51, 47, 108, 97, 119, 115, 46, 70, 110, 69, 120, 97, 99, 116, 73, 115, 68, 101, 115, 107, 32, 108, 111, 111, 112, 46, 101, 120, 97, 109, 112, 108, 101, 47, 103, 48, 49, 51, 48, 51, 47, 108, 97, 119, 115, 46, 70, 110, 69, 120, 97, 99, 116, 73, 110, 116, 101, 114, 108, 97, 99, 101, 80, 111, 108, 121, 110, 111, 109, 105, 97, 108, 32, 108, 111, 111, 112, 46, 101, 120, 97, 109, 112, 108, 101, 47, 103, 48, 49, 51, 48, 51, 47, 108, 97, 119, 115, 46, 70, 110, 69, 120, 97, 99, 116, 86, 97, 108, 117, 101, 79, 102, 73, 110, 116, 101, 114, 108, 97, 99, 101, 32, 108, 111, 111, 112, 46, 101, 120, 97, 109, 112, 108, 101, 47, 103, 48, 49, 51, 48, 51, 47, 108, 97, 119, 115, 46, 70, 110, 69, 120, 97, 99, 116, 67, 111, 109, 109, 117, 116, 97, 116, 111, 114, 79, 102, 32, 108, 111, 111, 112, 46, 101, 120, 97, 109, 112, 108, 101, 47, 103, 48, 49, 51, 48, 51, 47, 108, 97, 119, 115, 46, 70, 110, 69, 120, 97, 99, 116, 76, 111, 103, 97, 114, 105, 116, 104, 109, 79, 102, 32, 108, 111, 111, 112, 46, 101, 120, 97, 109, 112, 108, 101, 47, 103, 48, 49, 51, 48, 51, 47, 108, 97, 119, 115, 46, 70, 110, 69, 120, 97, 99, 116, 69, 120, 112, 111, 110, 101, 110, 116, 105, 97, 108, 79, 102].map Char.ofNat) := by kernel_rfl
  rw [h, String.toList_ofList]
theorem words : wordsSigns Try.prog.initOrder.toList = [[104, 97, 114, 110, 101, 115, 115].map Char.ofNat, [52, 97, 50, 56, 99, 52, 53, 98, 50, 98, 51, 48, 99, 53, 53, 55, 55, 49, 101, 101, 101, 57, 56, 102, 52, 48, 98, 101, 48, 53, 56, 51, 99, 52, 49, 102, 99, 50, 54, 102, 54, 50, 102, 98, 99, 55, 56, 49, 57, 48, 52, 101, 50, 56, 100, 54, 100, 53, 51, 55, 48, 98, 98, 100].map Char.ofNat, [99, 117, 116].map Char.ofNat, [97, 116].map Char.ofNat, [108, 111, 111, 112, 46, 101, 120, 97, 109, 112, 108, 101, 47, 103, 48, 49, 51, 48, 51, 47, 108, 97, 119, 115, 46, 70, 110, 69, 120, 97, 99, 116, 84, 104, 114, 101, 101, 87, 101, 98, 115].map Char.ofNat, [108, 111, 111, 112, 46, 101, 120, 97, 109, 112, 108, 101, 47, 103, 48, 49, 51, 48, 51, 47, 108, 97, 119, 115, 46, 70, 110, 69, 120, 97, 99, 116, 73, 115, 68, 101, 115, 107].map Char.ofNat, [108, 111, 111, 112, 46, 101, 120, 97, 109, 112, 108, 101, 47, 103, 48, 49, 51, 48, 51, 47, 108, 97, 119, 115, 46, 70, 110, 69, 120, 97, 99, 116, 73, 110, 116, 101, 114, 108, 97, 99, 101, 80, 111, 108, 121, 110, 111, 109, 105, 97, 108].map Char.ofNat, [108, 111, 111, 112, 46, 101, 120, 97, 109, 112, 108, 101, 47, 103, 48, 49, 51, 48, 51, 47, 108, 97, 119, 115, 46, 70, 110, 69, 120, 97, 99, 116, 86, 97, 108, 117, 101, 79, 102, 73, 110, 116, 101, 114, 108, 97, 99, 101].map Char.ofNat, [108, 111, 111, 112, 46, 101, 120, 97, 109, 112, 108, 101, 47, 103, 48, 49, 51, 48, 51, 47, 108, 97, 119, 115, 46, 70, 110, 69, 120, 97, 99, 116, 67, 111, 109, 109, 117, 116, 97, 116, 111, 114, 79, 102].map Char.ofNat, [108, 111, 111, 112, 46, 101, 120, 97, 109, 112, 108, 101, 47, 103, 48, 49, 51, 48, 51, 47, 108, 97, 119, 115, 46, 70, 110, 69, 120, 97, 99, 116, 76, 111, 103, 97, 114, 105, 116, 104, 109, 79, 102].map Char.ofNat, [108, 111, 111, 112, 46, 101, 120, 97, 109, 112, 108, 101, 47, 103, 48, 49, 51, 48, 51, 47, 108, 97, 119, 115, 46, 70, 110, 69, 120, 97, 99, 116, 69, 120, 112, 111, 110, 101, 110, 116, 105, 97, 108, 79, 102].map Char.ofNat] := by
  rw [signs]
  kernel_rfl
theorem behind : behindMainWord [[104, 97, 114, 110, 101, 115, 115].map Char.ofNat, [52, 97, 50, 56, 99, 52, 53, 98, 50, 98, 51, 48, 99, 53, 53, 55, 55, 49, 101, 101, 101, 57, 56, 102, 52, 48, 98, 101, 48, 53, 56, 51, 99, 52, 49, 102, 99, 50, 54, 102, 54, 50, 102, 98, 99, 55, 56, 49, 57, 48, 52, 101, 50, 56, 100, 54, 100, 53, 51, 55, 48, 98, 98, 100].map Char.ofNat, [99, 117, 116].map Char.ofNat, [97, 116].map Char.ofNat, [108, 111, 111, 112, 46, 101, 120, 97, 109, 112, 108, 101, 47, 103, 48, 49, 51, 48, 51, 47, 108, 97, 119, 115, 46, 70, 110, 69, 120, 97, 99, 116, 84, 104, 114, 101, 101, 87, 101, 98, 115].map Char.ofNat, [108, 111, 111, 112, 46, 101, 120, 97, 109, 112, 108, 101, 47, 103, 48, 49, 51, 48, 51, 47, 108, 97, 119, 115, 46, 70, 110, 69, 120, 97, 99, 116, 73, 115, 68, 101, 115, 107].map Char.ofNat, [108, 111, 111, 112, 46, 101, 120, 97, 109, 112, 108, 101, 47, 103, 48, 49, 51, 48, 51, 47, 108, 97, 119, 115, 46, 70, 110, 69, 120, 97, 99, 116, 73, 110, 116, 101, 114, 108, 97, 99, 101, 80, 111, 108, 121, 110, 111, 109, 105, 97, 108].map Char.ofNat, [108, 111, 111, 112, 46, 101, 120, 97, 109, 112, 108, 101, 47, 103, 48, 49, 51, 48, 51, 47, 108, 97, 119, 115, 46, 70, 110, 69, 120, 97, 99, 116, 86, 97, 108, 117, 101, 79, 102, 73, 110, 116, 101, 114, 108, 97, 99, 101].map Char.ofNat, [108, 111, 111, 112, 46, 101, 120, 97, 109, 112, 108, 101, 47, 103, 48, 49, 51, 48, 51, 47, 108, 97, 119, 115, 46, 70, 110, 69, 120, 97, 99, 116, 67, 111, 109, 109, 117, 116, 97, 116, 111, 114, 79, 102].map Char.ofNat, [108, 111, 111, 112, 46, 101, 120, 97, 109, 112, 108, 101, 47, 103, 48, 49, 51, 48, 51, 47, 108, 97, 119, 115, 46, 70, 110, 69, 120, 97, 99, 116, 76, 111, 103, 97, 114, 105, 116, 104, 109, 79, 102].map Char.ofNat, [108, 111, 111, 112, 46, 101, 120, 97, 109, 112, 108, 101, 47, 103, 48, 49, 51, 48, 51, 47, 108, 97, 119, 115, 46, 70, 110, 69, 120, 97, 99, 116, 69, 120, 112, 111, 110, 101, 110, 116, 105, 97, 108, 79, 102].map Char.ofNat] = [[99, 117, 116].map Char.ofNat, [97, 116].map Char.ofNat, [108, 111, 111, 112, 46, 101, 120, 97, 109, 112, 108, 101, 47, 103, 48, 49, 51, 48, 51, 47, 108, 97, 119, 115, 46, 70, 110, 69, 120, 97, 99, 116, 84, 104, 114, 101, 101, 87, 101, 98, 115].map Char.ofNat, [108, 111, 111, 112, 46, 101, 120, 97, 109, 112, 108, 101, 47, 103, 48, 49, 51, 48, 51, 47, 108, 97, 119, 115, 46, 70, 110, 69, 120, 97, 99, 116, 73, 115, 68, 101, 115, 107].map Char.ofNat, [108, 111, 111, 112, 46, 101, 120, 97, 109, 112, 108, 101, 47, 103, 48, 49, 51, 48, 51, 47, 108, 97, 119, 115, 46, 70, 110, 69, 120, 97, 99, 116, 73, 110, 116, 101, 114, 108, 97, 99, 101, 80, 111, 108, 121, 110, 111, 109, 105, 97, 108].map Char.ofNat, [108, 111, 111, 112, 46, 101, 120, 97, 109, 112, 108, 101, 47, 103, 48, 49, 51, 48, 51, 47, 108, 97, 119, 115, 46, 70, 110, 69, 120, 97, 99, 116, 86, 97, 108, 117, 101, 79, 102, 73, 110, 116, 101, 114, 108, 97, 99, 101].map Char.ofNat, [108, 111, 111, 112, 46, 101, 120, 97, 109, 112, 108, 101, 47, 103, 48, 49, 51, 48, 51, 47, 108, 97, 119, 115, 46, 70, 110, 69, 120, 97, 99, 116, 67, 111, 109, 109, 117, 116, 97, 116, 111, 114, 79, 102].map Char.ofNat, [108, 111, 111, 112, 46, 101, 120, 97, 109, 112, 108, 101, 47, 103, 48, 49, 51, 48, 51, 47, 108, 97, 119, 115, 46, 70, 110, 69, 120, 97, 99, 116, 76, 111, 103, 97, 114, 105, 116, 104, 109, 79, 102].map Char.ofNat, [108, 111, 111, 112, 46, 101, 120, 97, 109, 112, 108, 101, 47, 103, 48, 49, 51, 48, 51, 47, 108, 97, 119, 115, 46, 70, 110, 69, 120, 97, 99, 116, 69, 120, 112, 111, 110, 101, 110, 116, 105, 97, 108, 79, 102].map Char.ofNat] := by kernel_rfl
theorem strip : stripLifts liftWords [[99, 117, 116].map Char.ofNat, [97, 116].map Char.ofNat, [108, 111, 111, 112, 46, 101, 120, 97, 109, 112, 108, 101, 47, 103, 48, 49, 51, 48, 51, 47, 108, 97, 119, 115, 46, 70, 110, 69, 120, 97, 99, 116, 84, 104, 114, 101, 101, 87, 101, 98, 115].map Char.ofNat, [108, 111, 111, 112, 46, 101, 120, 97, 109, 112, 108, 101, 47, 103, 48, 49, 51, 48, 51, 47, 108, 97, 119, 115, 46, 70, 110, 69, 120, 97, 99, 116, 73, 115, 68, 101, 115, 107].map Char.ofNat, [108, 111, 111, 112, 46, 101, 120, 97, 109, 112, 108, 101, 47, 103, 48, 49, 51, 48, 51, 47, 108, 97, 119, 115, 46, 70, 110, 69, 120, 97, 99, 116, 73, 110, 116, 101, 114, 108, 97, 99, 101, 80, 111, 108, 121, 110, 111, 109, 105, 97, 108].map Char.ofNat, [108, 111, 111, 112, 46, 101, 120, 97, 109, 112, 108, 101, 47, 103, 48, 49, 51, 48, 51, 47, 108, 97, 119, 115, 46, 70, 110, 69, 120, 97, 99, 116, 86, 97, 108, 117, 101, 79, 102, 73, 110, 116, 101, 114, 108, 97, 99, 101].map Char.ofNat, [108, 111, 111, 112, 46, 101, 120, 97, 109, 112, 108, 101, 47, 103, 48, 49, 51, 48, 51, 47, 108, 97, 119, 115, 46, 70, 110, 69, 120, 97, 99, 116, 67, 111, 109, 109, 117, 116, 97, 116, 111, 114, 79, 102].map Char.ofNat, [108, 111, 111, 112, 46, 101, 120, 97, 109, 112, 108, 101, 47, 103, 48, 49, 51, 48, 51, 47, 108, 97, 119, 115, 46, 70, 110, 69, 120, 97, 99, 116, 76, 111, 103, 97, 114, 105, 116, 104, 109, 79, 102].map Char.ofNat, [108, 111, 111, 112, 46, 101, 120, 97, 109, 112, 108, 101, 47, 103, 48, 49, 51, 48, 51, 47, 108, 97, 119, 115, 46, 70, 110, 69, 120, 97, 99, 116, 69, 120, 112, 111, 110, 101, 110, 116, 105, 97, 108, 79, 102].map Char.ofNat] = ([], [[99, 117, 116].map Char.ofNat, [97, 116].map Char.ofNat, [108, 111, 111, 112, 46, 101, 120, 97, 109, 112, 108, 101, 47, 103, 48, 49, 51, 48, 51, 47, 108, 97, 119, 115, 46, 70, 110, 69, 120, 97, 99, 116, 84, 104, 114, 101, 101, 87, 101, 98, 115].map Char.ofNat, [108, 111, 111, 112, 46, 101, 120, 97, 109, 112, 108, 101, 47, 103, 48, 49, 51, 48, 51, 47, 108, 97, 119, 115, 46, 70, 110, 69, 120, 97, 99, 116, 73, 115, 68, 101, 115, 107].map Char.ofNat, [108, 111, 111, 112, 46, 101, 120, 97, 109, 112, 108, 101, 47, 103, 48, 49, 51, 48, 51, 47, 108, 97, 119, 115, 46, 70, 110, 69, 120, 97, 99, 116, 73, 110, 116, 101, 114, 108, 97, 99, 101, 80, 111, 108, 121, 110, 111, 109, 105, 97, 108].map Char.ofNat, [108, 111, 111, 112, 46, 101, 120, 97, 109, 112, 108, 101, 47, 103, 48, 49, 51, 48, 51, 47, 108, 97, 119, 115, 46, 70, 110, 69, 120, 97, 99, 116, 86, 97, 108, 117, 101, 79, 102, 73, 110, 116, 101, 114, 108, 97, 99, 101].map Char.ofNat, [108, 111, 111, 112, 46, 101, 120, 97, 109, 112, 108, 101, 47, 103, 48, 49, 51, 48, 51, 47, 108, 97, 119, 115, 46, 70, 110, 69, 120, 97, 99, 116, 67, 111, 109, 109, 117, 116, 97, 116, 111, 114, 79, 102].map Char.ofNat, [108, 111, 111, 112, 46, 101, 120, 97, 109, 112, 108, 101, 47, 103, 48, 49, 51, 48, 51, 47, 108, 97, 119, 115, 46, 70, 110, 69, 120, 97, 99, 116, 76, 111, 103, 97, 114, 105, 116, 104, 109, 79, 102].map Char.ofNat, [108, 111, 111, 112, 46, 101, 120, 97, 109, 112, 108, 101, 47, 103, 48, 49, 51, 48, 51, 47, 108, 97, 119, 115, 46, 70, 110, 69, 120, 97, 99, 116, 69, 120, 112, 111, 110, 101, 110, 116, 105, 97, 108, 79, 102].map Char.ofNat]) := by kernel_rfl
theorem later : Try.prog.laysLater = false := by kernel_rfl
theorem reflects : Try.prog.bearsReflect = false := by kernel_rfl
theorem doors : Try.prog.doorRows = [] := by kernel_rfl
theorem make_ok : (Try.prog.make == some .cut) = true := by
  rw [Program.make]
  rw [words, behind]
  kernel_rfl
theorem mayEnter_ok : Try.prog.mayEnter = true := by
  rw [Program.mayEnter]
  rw [words, behind]
  simp only [strip, later, reflects]
  rw [Program.doorFits, doors]
  kernel_rfl
theorem liftsFinal_ok : (false == Try.prog.liftsFinal) = true := by
  rw [Program.liftsFinal, Program.headLifts]
  rw [words, behind]
  kernel_rfl
end Go.Proofs.Ytmeggliapebkgaa.Head
end
section
namespace Go.Proofs.Ytmeggliapebkgaa.fnExactIsDesk
open Go.ChangeShapes Go.WideShapes Go.ChangeAt Go.RowKit
open Go.ChangeMaps (open_string shut_string)
set_option linter.unusedVariables false
theorem own : ownKnob Try.prog.godebug = none := by kernel_rfl
theorem laidOut : laidOutB Try.prog = true := by kernel_rfl
set_option maxRecDepth 100000 in
theorem lifted (os : Os) (started : os.Started) (H : Type) (enc : TypeId × Value → H) :
    ReturnsInHanded {} Try.checked os 4 .any (Rows.fnExactIsDeskSpec.pre6 enc Try.prog Try.f4 Rows.fnExactIsDeskRow.domain false) (Rows.fnExactIsDeskSpec.post enc Try.prog Try.f4 false true false false) := by
  refine returnsInHanded_of_change_sized (C := Try.checked) own started (by kernel_rfl) Try.func4
    (ChangeSpec.witness6 (enc := enc) (C := Try.checked) false ⟨#[], #[.agg #[.slice none 0 0, .int .i64 0, .slice none 0 0, .slice none 0 0, .slice none 0 0]], []⟩ 8 (by kernel_rfl) (by kernel_rfl) (by kernel_rfl) (by kernel_rfl)) ?_
  intro W base args ds gs before hval0 hW hcnd hsz0 _
  have hval : ∀ (j : Nat) t v, Try.f4.params[j]? = some t → args[j]? = some v → Value.okWide Try.prog W .any base t v := hval0
  have hW' := hW
  obtain ⟨p, q, hA0, hV, rfl, hfz, hnd⟩ := hW
  have hA : DataW.TrodAll enc Try.prog W 0 (fun _ => true) true Try.f4.params.toList args.toList ds p := hA0
  rw [Try.params4] at hA hval
  obtain ⟨v0, vs0, d0, ds0, p0, q0, hargs, rfl, rfl, h0, r0⟩ := trodAll_cons hA
  obtain ⟨rfl, rfl, rfl⟩ := trodAll_nil r0
  obtain rfl : args = #[v0] := by cases args; simp_all
  obtain ⟨rfl, rfl⟩ := trodVars_none hV
  have k0 := h0
  have lt0 : ∀ x ∈ p0, x.block < W.heap.size := by obtain ⟨m, hm⟩ := k0; exact DataW.trod_lt m _ _ _ hm
  obtain ⟨A0_, c0_, l_, q_, A2_, c2_, x_, A3_, c3_, m_, A4_, c4_, L_, rfl, hr0_, hc0_, hr2_, hc2_, hr3_, hc3_, hr4_, hc4_, ml_, wl_, mx_, wx_, mm_, mL_, wm_, wL_⟩ := Open.desk_open (hval 0 41 v0 rfl rfl) h0
  clear hA0 hval0 hsz0
  obtain ⟨k, hk⟩ := Pure.FnExactIsDesk l_ q_ x_ m_ L_ ml_ wl_ mx_ wx_ mm_ mL_ wm_ wL_
  refine (F.laws_FnExactIsDesk.calls k _ _ l_ q_ _ _ x_ _ _ m_ _ _ L_ true W hr0_ hc0_ hr2_ hc2_ hr3_ hc3_ hr4_ hc4_ hk).mono fun e W' ⟨he, bel⟩ => ?_
  subst he
  exact ⟨_, rfl, _, _, _, [], _, [], hW', trodAll_mk1 (shut_bool Try.underlying4 _), (trodAll_cons_mk (Below.trod laidOut (by kernel_rfl) (of_decide_eq_true (by kernel_rfl)) k0 bel lt0) trodAll_mk0), rfl, bel.frame _, fun h => by cases h⟩
set_option maxHeartbeats 8000000 in
theorem closed : joinedFacts Try.pinned.checked.prog 4 Try.f4 Rows.fnExactIsDeskSpec Rows.fnExactIsDeskRow = true := by
  unfold joinedFacts
  refine Head.and_ok (Head.and_ok (Head.and_ok (Head.and_ok (Head.and_ok (Head.and_ok (Head.and_ok (Head.and_ok (Head.and_ok (Head.and_ok (Head.and_ok (Head.and_ok (Head.and_ok (Head.and_ok (Head.and_ok (Head.and_ok (Head.and_ok (Head.and_ok (Head.and_ok (Head.and_ok (Head.and_ok (Head.and_ok (Head.and_ok (Head.and_ok (Head.and_ok (Head.and_ok (Head.and_ok (Head.and_ok (Head.and_ok (Head.and_ok (Head.and_ok ?_ ?_) ?_) ?_) ?_) ?_) ?_) ?_) ?_) ?_) ?_) ?_) ?_) ?_) ?_) ?_) ?_) ?_) ?_) ?_) ?_) ?_) ?_) ?_) ?_) ?_) ?_) ?_) ?_) ?_) ?_) ?_
  · as_aux_lemma => kernel_rfl
  · as_aux_lemma => kernel_rfl
  · as_aux_lemma => kernel_rfl
  · as_aux_lemma => kernel_rfl
  · as_aux_lemma => kernel_rfl
  · as_aux_lemma => kernel_rfl
  · as_aux_lemma => kernel_rfl
  · as_aux_lemma => kernel_rfl
  · as_aux_lemma => kernel_rfl
  · as_aux_lemma => kernel_rfl
  · as_aux_lemma => kernel_rfl
  · as_aux_lemma => kernel_rfl
  · as_aux_lemma => kernel_rfl
  · as_aux_lemma => kernel_rfl
  · as_aux_lemma => kernel_rfl
  · as_aux_lemma => kernel_rfl
  · as_aux_lemma => kernel_rfl
  · as_aux_lemma => kernel_rfl
  · as_aux_lemma => kernel_rfl
  · as_aux_lemma => kernel_rfl
  · as_aux_lemma => kernel_rfl
  · as_aux_lemma => kernel_rfl
  · as_aux_lemma => kernel_rfl
  · as_aux_lemma => kernel_rfl
  · as_aux_lemma => kernel_rfl
  · exact Head.mayEnter_ok
  · exact Head.liftsFinal_ok
  · exact Head.make_ok
  · as_aux_lemma => kernel_rfl
  · as_aux_lemma => kernel_rfl
  · as_aux_lemma => kernel_rfl
  · as_aux_lemma => kernel_rfl
set_option maxHeartbeats 8000000 in
theorem over : Rows.fnExactIsDeskRow.holds Try.pinned (OpenSpec.ofChange Rows.fnExactIsDeskSpec) :=
  OpenClaim.holds_of_wide 4 Try.f4 rfl rfl rfl rfl rfl rfl rfl ⟨rfl, rfl, rfl, rfl, rfl⟩ rfl rfl rfl rfl rfl (by as_aux_lemma => kernel_rfl) Try.func4 closed
    (of_decide_eq_true (by as_aux_lemma => kernel_rfl)) (by unfold Func.isWrapper; first | (rw [if_pos (by decide +kernel)]; kernel_rfl) | (rw [if_neg (by decide +kernel)]; exact ⟨rfl, rfl⟩))
    (fun os started H enc _ => lifted os started H enc)
theorem proved : Rows.FnExactIsDeskSaid := over
#print axioms proved
end Go.Proofs.Ytmeggliapebkgaa.fnExactIsDesk
namespace Go.Proofs.Ytmeggliapebkgaa
theorem fnExactIsDesk_holds : Rows.FnExactIsDeskSaid := fnExactIsDesk.proved
end Go.Proofs.Ytmeggliapebkgaa
end
