/- What laws_FnExactTurnFork answers, and that the Go text comes to it: for every world in which the arguments read as told. -/
import Derived.Test.YtnlhhbnoccobmaaFgA
import Derived.Test.YtnlhhbnoccobmaaFgS
import Derived.Test.YtnlhhbnoccobmaaFx112
import Derived.Test.YtnlhhbnoccobmaaFx32
import Derived.Test.YtnlhhbnoccobmaaFx33
import Derived.Test.YtnlhhbnoccobmaaFx30
import Derived.Test.YtnlhhbnoccobmaaFx31
import Derived.Test.YtnlhhbnoccobmaaPureMem
import Derived.WalkSpells
import Derived.BigQuiet
import Derived.Deep.RegionLaw
namespace Go.Proofs.Ytnlhhbnoccobmaa.F
open Go.RowKit Go.Proofs.YtnlhhbnoccobmaaW.PrintWords Go.Proofs.YtnlhhbnoccobmaaW.PrintLast Go.Proofs.YtnlhhbnoccobmaaW.PrintMore
attribute [local go_sem] max2_int min2_int max_two min_two max_three min_three max_four min_four   -- for this text's walks alone
set_option linter.unusedVariables false
set_option linter.unusedSimpArgs false

/-! ### laws_FnExactTurnFork: function 6 (by hand) -/
open Go.Proofs.Ytnlhhbnoccobmaa.Mem
theorem calls_eqTurnFork {P : Program} {f : FuncId} {xs xs' : Array Value} {w : World} {Q : Ending → World → Prop} (h : xs' = xs) (hc : Calls P f xs w Q) : Calls P f xs' w Q := h ▸ hc
set_option maxHeartbeats 16000000 in
set_option maxRecDepth 100000 in
theorem TurnFork_returns (k0 k1 k2 k3 k4 k5 k6 k7 k8 k9 ka : Nat) (A0 : Option Addr) (c0 : Nat) (l : List Int) (A1 : Option Addr) (c1 : Nat) (L : List (List Int)) (a1 t c : Int) (r1 : List Int) (r2 : List (List Int)) (T0 T U0 U : Int) (m0 n0 : List Int) (M N : List (List Int)) (w : World)
  (hr0 : Kd.C (Kd.int .i64) w A0 l.length l) (hc0 : l.length ≤ c0) (hr1 : Kd.C (Kd.slice 2 (Kd.int .i64)) w A1 L.length L) (hc1 : L.length ≤ c1)
  (e0 : laws_szWeb.f k0 l L 1048576 = some t) (ht : 0 ≤ t) (e1 : laws_toWeb.f k1 l L = some (l, L)) (e2 : spec_TurnFork.f k2 l L a1 = some (r1, r2, c)) (e3 : impl_TurnFork.f k3 l L a1 = some (r1, r2, c)) (e4 : laws_eqWeb.f k4 r1 r2 r1 r2 = some true) (e5 : laws_eqWeb.f k5 l L l L = some true)
  (e6 : laws_markInt64S.f k6 l 1 = some (T0, m0)) (e7 : laws_markInt64SS.f k7 L T0 = some (T, M)) (hT : 0 ≤ T) (e8 : laws_markInt64S.f k8 r1 1 = some (U0, n0)) (e9 : laws_markInt64SS.f k9 r2 U0 = some (U, N)) (hU : 0 ≤ U) (ea : laws_heldWeb.f ka n0 N 1 = some U) (hL : L.length ≤ 1000000000) (h2 : r2.length ≤ 1000000000) :
  Calls Try.prog 6 #[.agg #[.slice A0 l.length c0, .slice A1 L.length c1], .int .i64 a1] w fun e w' => e = .returned (.bool true) ∧ Below w.heap.size w w' := by
 have hu25 := Try.underlying25
 have hu28 := Try.underlying28
 have HR0 := Aside0.mk hr0
 have HC0 := Aside0.mk hc0
 have HR1 := Aside0.mk hr1
 have HC1 := Aside0.mk hc1
 have E0 := Aside0.mk e0
 have E1 := Aside0.mk e1
 have E2 := Aside0.mk e2
 have E3 := Aside0.mk e3
 have E4 := Aside0.mk e4
 have E5 := Aside0.mk e5
 have E6 := Aside0.mk e6
 have E7 := Aside0.mk e7
 have E8 := Aside0.mk e8
 have E9 := Aside0.mk e9
 have EA := Aside0.mk ea
 have HL := Aside0.mk hL
 have H2 := Aside0.mk h2
 have t1 : decide (t < 0) = false := decide_eq_false (by omega)
 have t2 : decide (T < 0) = false := decide_eq_false (by omega)
 have t3 : decide (U < 0) = false := decide_eq_false (by omega)
 clear hr0 hc0 hr1 hc1 e0 ht e1 e2 e3 e4 e5 e6 e7 hT e8 e9 hU ea hL h2
 go_enter Try.func6, Try.ntmps6
 go_wp2_with fail
 have b2 := @new_at w (.cells #[.slice A0 l.length c0, .slice A1 L.length c1] 25) _ rfl
 have hB := below_alloc (Below.refl w.heap.size w) (.cells #[.slice A0 l.length c0, .slice A1 L.length c1] 25)
 generalize (w.alloc (.cells #[.slice A0 l.length c0, .slice A1 L.length c1] 25)) = Wa at b2 hB ⊢
 refine (laws_szWeb.calls k0 A0 c0 l A1 c1 L 1048576 t _ (Kd.C_below HR0.out hB) HC0.out (Kd.C_below HR1.out hB) HC1.out E0.out).mono ?_
 rintro e w1 ⟨rfl, hb⟩
 have b2 := blk_below b2 hb
 have HB := Aside0.mk (below_step hB hb)
 have q20 := (blk_cell b2 0).trans rfl
 have q21 := (blk_cell b2 1).trans rfl
 have B2 := Aside0.mk b2
 clear b2 hB hb
 clear b2
 go_wp2_with fail
 refine (laws_toWeb.calls k1 A0 c0 l A1 c1 L l L _ (Kd.C_below HR0.out HB.out) HC0.out (Kd.C_below HR1.out HB.out) HC1.out E1.out).mono ?_
 rintro e w2 ⟨v0, v1, rfl, ho0, ho1, hb⟩
 obtain ⟨X0, d0, rfl, hl0, hC0⟩ := Kd.R_reads ho0
 obtain ⟨X1, d1, rfl, hl1, hC1⟩ := Kd.S_reads ho1
 have B2 := Aside0.mk (blk_below B2.out hb)
 have HB := Aside0.mk (below_step HB.out hb)
 have HX := Aside0.mk (And.intro hl0 (And.intro hC0 (And.intro hl1 hC1)))
 clear ho0 ho1 hb hl0 hC0 hl1 hC1 q20 q21
 go_wp2_with fail
 refine (spec_TurnFork.calls k2 X0 d0 l X1 d1 L a1 r1 r2 c _ HX.out.2.1 HX.out.1 HX.out.2.2.2 HX.out.2.2.1 E2.out).mono ?_
 rintro e w3 ⟨v0, v1, rfl, ho0, ho1, hb⟩
 obtain ⟨Y0, f0, rfl, hl0, hC0⟩ := Kd.R_reads ho0
 obtain ⟨Y1, f1, rfl, hl1, hC1⟩ := Kd.S_reads ho1
 have HY := Aside0.mk (And.intro hl0 (And.intro hC0 (And.intro hl1 hC1)))
 have B2 := Aside0.mk (blk_below B2.out hb)
 have HB := Aside0.mk (below_step HB.out hb)
 clear ho0 ho1 hb hl0 hC0 hl1 hC1 HX
 have b2 := blk_alloc B2.out (.cells #[.slice Y0 r1.length f0, .slice Y1 r2.length f1] 28)
 have b6 := @new_at w3 (.cells #[.slice Y0 r1.length f0, .slice Y1 r2.length f1] 28) _ rfl
 have hB := below_alloc HB.out (.cells #[.slice Y0 r1.length f0, .slice Y1 r2.length f1] 28)
 have hY0 := Kd.C_alloc HY.out.2.1 (.cells #[.slice Y0 r1.length f0, .slice Y1 r2.length f1] 28)
 have hY1 := Kd.C_alloc HY.out.2.2.2 (.cells #[.slice Y0 r1.length f0, .slice Y1 r2.length f1] 28)
 have q20 := (blk_cell b2 0).trans rfl
 have q21 := (blk_cell b2 1).trans rfl
 have b2 := Aside0.mk b2
 have b6 := Aside0.mk b6
 have hB := Aside0.mk hB
 have hY0 := Aside0.mk hY0
 have hY1 := Aside0.mk hY1
 go_wp2_with fail
 generalize (w3.alloc (.cells #[.slice Y0 r1.length f0, .slice Y1 r2.length f1] 28)) = W3 at b2 b6 hB hY0 hY1 q20 q21 ⊢
 refine (laws_toWeb.calls k1 A0 c0 l A1 c1 L l L W3 (Kd.C_below HR0.out hB.out) HC0.out (Kd.C_below HR1.out hB.out) HC1.out E1.out).mono ?_
 rintro e w4 ⟨v0, v1, rfl, ho0, ho1, hb⟩
 obtain ⟨X0, d0, rfl, hl0, hC0⟩ := Kd.R_reads ho0
 obtain ⟨X1, d1, rfl, hl1, hC1⟩ := Kd.S_reads ho1
 have O4 := Aside0.mk (Kd.R_alloc (Kd.R_mono (ok' := fun k => k < w4.heap.size) (Kd.R_bound ho0) (fun k hk => hk.2.2.1)) (.cells #[.slice X0 l.length d0, .slice X1 L.length d1] 28))
 have S4 := Aside0.mk (Kd.S_alloc (Kd.S_mono (ok' := fun k => some k ≠ (Value.slice X0 l.length d0).ownBlock ∧ k < w4.heap.size) (Kd.S_bound ho1) (fun k hk => ⟨hk.1, hk.2.2.1⟩)) (.cells #[.slice X0 l.length d0, .slice X1 L.length d1] 28))
 have b8 := @new_at w4 (.cells #[.slice X0 l.length d0, .slice X1 L.length d1] 28) _ rfl
 have q80 := (blk_cell b8 0).trans rfl
 have q81 := (blk_cell b8 1).trans rfl
 have B8 := Aside0.mk b8
 have K4 := Aside0.mk (below_alloc hb (.cells #[.slice X0 l.length d0, .slice X1 L.length d1] 28))
 have hX := Aside0.mk (And.intro hl0 (And.intro (Kd.C_alloc hC0 (.cells #[.slice X0 l.length d0, .slice X1 L.length d1] 28)) (And.intro hl1 (Kd.C_alloc hC1 (.cells #[.slice X0 l.length d0, .slice X1 L.length d1] 28)))))
 have Z4 := Aside0.mk (show (w4.alloc (.cells #[.slice X0 l.length d0, .slice X1 L.length d1] 28)).heap.size = w4.heap.size + 1 by simp)
 clear ho0 ho1 hb hl0 hC0 hl1 hC1 q20 q21 b8
 go_wp2_with fail
 generalize (w4.alloc (.cells #[.slice X0 l.length d0, .slice X1 L.length d1] 28)) = W4 at O4 S4 B8 K4 hX Z4 q80 q81 ⊢
 refine (impl_TurnFork.calls k3 X0 d0 l X1 d1 L a1 r1 r2 c W4 hX.out.2.1 hX.out.1 hX.out.2.2.2 hX.out.2.2.1 E3.out).mono ?_
 rintro e w5 ⟨v0, v1, rfl, ho0, ho1, hb⟩
 obtain ⟨G0, g0, rfl⟩ := Kd.R_slice ho0
 obtain ⟨G1, g1, rfl⟩ := Kd.S_slice ho1
 have O5 := Aside0.mk (Kd.R_alloc (Kd.R_mono (ok' := fun k => W4.heap.size ≤ k ∧ k < w5.heap.size) (Kd.R_bound ho0) (fun k hk => ⟨hk.2.1, hk.2.2.1⟩)) (.cells #[.slice G0 r1.length g0, .slice G1 r2.length g1] 28))
 have S5 := Aside0.mk (Kd.S_alloc (Kd.S_mono (ok' := fun k => some k ≠ (Value.slice G0 r1.length g0).ownBlock ∧ W4.heap.size ≤ k ∧ k < w5.heap.size) (Kd.S_bound ho1) (fun k hk => ⟨hk.1, hk.2.1, hk.2.2.1⟩)) (.cells #[.slice G0 r1.length g0, .slice G1 r2.length g1] 28))
 have L45 := Aside0.mk hb.size
 have b9 := @new_at w5 (.cells #[.slice G0 r1.length g0, .slice G1 r2.length g1] 28) _ rfl
 have K45 := Aside0.mk (below_alloc hb (.cells #[.slice G0 r1.length g0, .slice G1 r2.length g1] 28))
 have K5 := Aside0.mk (below_step K4.out K45.out)
 have b6' := blk_below b6.out K5.out
 have q90 := (blk_cell b9 0).trans rfl
 have q91 := (blk_cell b9 1).trans rfl
 have q60 := (blk_cell b6' 0).trans rfl
 have q61 := (blk_cell b6' 1).trans rfl
 have B9 := Aside0.mk b9
 have Z5 := Aside0.mk (show (w5.alloc (.cells #[.slice G0 r1.length g0, .slice G1 r2.length g1] 28)).heap.size = w5.heap.size + 1 by simp)
 clear ho0 ho1 hb b9 b6' q80 q81
 go_wp2_with fail
 generalize (w5.alloc (.cells #[.slice G0 r1.length g0, .slice G1 r2.length g1] 28)) = W5 at O5 S5 K45 K5 q90 q91 q60 q61 B9 Z5 ⊢
 refine (laws_eqWeb.calls k4 G0 g0 r1 G1 g1 r2 Y0 f0 r1 Y1 f1 r2 true W5 (Kd.R_reads' O5.out).2.2 (Kd.R_reads' O5.out).2.1 (Kd.S_reads' S5.out).2.2 (Kd.S_reads' S5.out).2.1 (Kd.C_below hY0.out K5.out) HY.out.1 (Kd.C_below hY1.out K5.out) HY.out.2.2.1 E4.out).mono ?_
 rintro e w6 ⟨rfl, hb⟩
 have K6 := Aside0.mk (below_step K5.out hb)
 have K56 := Aside0.mk hb
 have b2' := blk_below b2.out K6.out
 have b8' := blk_below B8.out (below_step K45.out hb)
 have q20 := (blk_cell b2' 0).trans rfl
 have q21 := (blk_cell b2' 1).trans rfl
 have q80 := (blk_cell b8' 0).trans rfl
 have q81 := (blk_cell b8' 1).trans rfl
 have B26 := Aside0.mk b2'
 have B86 := Aside0.mk b8'
 clear hb b2' b8' q90 q91 q60 q61
 go_wp2_with fail
 go_region_law (first
  | (refine goes_ Try.func20 (by kernel_rfl) rfl #[.agg #[.slice A0 l.length c0, .slice A1 L.length c1]] (by rfl) rfl rfl (by simp [Act.eval, Act.put]) ?_; refine (laws_toWeb.calls k1 A0 c0 l A1 c1 L l L _ ?s1 HC0.out ?s2 HC1.out E1.out).mono ?_; (case s1 => first | exact Kd.C_below HR0.out (below_step hB.out K6.out) | exact Kd.C_drew (Kd.C_below HR0.out (below_step hB.out K6.out))); (case s2 => first | exact Kd.C_below HR1.out (below_step hB.out K6.out) | exact Kd.C_drew (Kd.C_below HR1.out (below_step hB.out K6.out))); rintro e w7 ⟨v0, v1, rfl, ho0, ho1, hb⟩; obtain ⟨Z0, z0, rfl, hl0, hC0⟩ := Kd.R_reads ho0; obtain ⟨Z1, z1, rfl, hl1, hC1⟩ := Kd.S_reads ho1; have hZ := Aside0.mk (And.intro hl0 (And.intro hC0 (And.intro hl1 hC1))); have K67 : Aside0 (Below w6.heap.size w6 w7) := ⟨below_step (below_drew1 (Below.refl _ _)) hb⟩; have q807 := (blk_cell (blk_below B86.out K67.out) 0).trans rfl; have q817 := (blk_cell (blk_below B86.out K67.out) 1).trans rfl; clear ho0 ho1 hb hl0 hC0 hl1 hC1; refine ⟨_, rfl, ?_⟩)
  | (refine goes_ Try.func22 (by kernel_rfl) rfl #[.agg #[.slice X0 l.length d0, .slice X1 L.length d1], .agg #[.slice Z0 l.length z0, .slice Z1 L.length z1]] (by rfl) rfl rfl (by simp [Act.eval, Act.put]) ?_; refine (laws_eqWeb.calls k5 X0 d0 l X1 d1 L Z0 z0 l Z1 z1 L true _ (Kd.C_below hX.out.2.1 (below_step K45.out (below_step K56.out K67.out))) hX.out.1 (Kd.C_below hX.out.2.2.2 (below_step K45.out (below_step K56.out K67.out))) hX.out.2.2.1 hZ.out.2.1 hZ.out.1 hZ.out.2.2.2 hZ.out.2.2.1 E5.out).mono ?_; rintro e w8 ⟨rfl, hb⟩; have K68 := Aside0.mk (below_step K67.out hb); clear hb; refine ⟨_, rfl, ?_⟩))
 all_goals
  have K8 := Aside0.mk (below_step K6.out K68.out)
  have K48 := Aside0.mk (below_step K45.out (below_step K56.out K68.out))
  have K58 := Aside0.mk (below_step K56.out K68.out)
  have q80 := (blk_cell (blk_below B86.out K68.out) 0).trans rfl
  have q81 := (blk_cell (blk_below B86.out K68.out) 1).trans rfl
  clear q20 q21 q807 q817
  go_wp2_with fail
  refine (markWeb_walk k6 k7 (fun k => some k = (Value.slice X0 l.length d0).ownBlock ∧ k < w4.heap.size) (fun k => some k ≠ (Value.slice X0 l.length d0).ownBlock ∧ k < w4.heap.size) X0 d0 l X1 d1 L 1 T0 T m0 M W3 w8 K8.out HL.out (Kd.R_below (Kd.R_tight2 rfl O4.out) K48.out) (Kd.S_below S4.out K48.out) (fun k h1 h0 => h1.1 h0.1) E6.out E7.out).mono ?_
  rintro e w9 ⟨rfl, _, _, hb9, hk9⟩
  have K9 := Aside0.mk hb9
  have O9 := Aside0.mk (Kd.R_kept (Kd.R_below (Kd.R_tight2 rfl O5.out) K58.out) hk9 (fun k hk h => by have := hk.2.1; have := Z4.out; rcases h with h | h <;> (have := h.2; omega)))
  have S9 := Aside0.mk (Kd.S_kept (Kd.S_below S5.out K58.out) hk9 (fun k hk h => by have := hk.2.1; have := Z4.out; rcases h with h | h <;> (have := h.2; omega)))
  have b9 := blk_kept (blk_below B9.out K58.out) hk9 (fun h => by have := L45.out; have := Z4.out; rcases h with h | h <;> (have := h.2; omega))
  have b6' := blk_below b6.out K9.out
  have q90 := (blk_cell b9 0).trans rfl
  have q91 := (blk_cell b9 1).trans rfl
  have q60 := (blk_cell b6' 0).trans rfl
  have q61 := (blk_cell b6' 1).trans rfl
  have B9' := Aside0.mk b9
  clear hb9 hk9 b9 b6' q80 q81
  go_wp2_with fail
  refine (laws_eqWeb.calls k4 G0 g0 r1 G1 g1 r2 Y0 f0 r1 Y1 f1 r2 true w9 (Kd.R_reads' O9.out).2.2 (Kd.R_reads' O9.out).2.1 (Kd.S_reads' S9.out).2.2 (Kd.S_reads' S9.out).2.1 (Kd.C_below hY0.out K9.out) HY.out.1 (Kd.C_below hY1.out K9.out) HY.out.2.2.1 E4.out).mono ?_
  rintro e w10 ⟨rfl, hb⟩
  have K10 := Aside0.mk (below_step K9.out hb)
  have O10 := Aside0.mk (Kd.R_lower (Kd.R_below O9.out hb) K4.out.size)
  have S10 := Aside0.mk (Kd.S_lower (Kd.S_below S9.out hb) K4.out.size)
  have b9 := blk_below B9'.out hb
  have q90 := (blk_cell b9 0).trans rfl
  have q91 := (blk_cell b9 1).trans rfl
  have B910 := Aside0.mk b9
  clear hb b9 q60 q61
  go_wp2_with fail
  refine (markWeb_walk k8 k9 (fun k => some k = (Value.slice G0 r1.length g0).ownBlock ∧ W4.heap.size ≤ k ∧ k < w5.heap.size) (fun k => some k ≠ (Value.slice G0 r1.length g0).ownBlock ∧ W4.heap.size ≤ k ∧ k < w5.heap.size) G0 g0 r1 G1 g1 r2 1 U0 U n0 N W3 w10 K10.out H2.out O10.out S10.out (fun k h1 h0 => h1.1 h0.1) E8.out E9.out).mono ?_
  rintro e w11 ⟨rfl, hr11, hs11, hb11, hk11⟩
  have K11 := Aside0.mk hb11
  have O11 := Aside0.mk hr11
  have S11 := Aside0.mk hs11
  have l0 := Aside0.mk (Kd.R_reads' hr11).1
  have l1 := Aside0.mk (Kd.S_reads' hs11).1
  have b9 := blk_kept B910.out hk11 (fun h => by rcases h with h | h <;> (have := h.2.2; omega))
  have q90 := (blk_cell b9 0).trans rfl
  have q91 := (blk_cell b9 1).trans rfl
  have B911 := Aside0.mk b9
  clear hr11 hs11 hb11 hk11 b9
  go_wp2_with fail
  refine calls_eqTurnFork (xs := #[.agg #[.slice G0 n0.length g0, .slice G1 N.length g1], .int .i64 1]) (by rw [← l0.out, ← l1.out]) ?_
  refine (laws_heldWeb.calls ka G0 g0 n0 G1 g1 N 1 U w11 (Kd.R_reads' O11.out).2.2 (by rw [← l0.out]; exact (Kd.R_reads' O11.out).2.1) (Kd.S_reads' S11.out).2.2 (by rw [← l1.out]; exact (Kd.S_reads' S11.out).2.1) EA.out).mono ?_
  rintro e w12 ⟨rfl, hb⟩
  have K12 := Aside0.mk (below_step K11.out hb)
  have K1112 := Aside0.mk hb
  have b2' := blk_below b2.out K12.out
  have q20 := (blk_cell b2' 0).trans rfl
  have q21 := (blk_cell b2' 1).trans rfl
  clear hb b2' q90 q91
  go_wp2_with fail
  refine (laws_toWeb.calls k1 A0 c0 l A1 c1 L l L w12 (Kd.C_below HR0.out (below_step hB.out K12.out)) HC0.out (Kd.C_below HR1.out (below_step hB.out K12.out)) HC1.out E1.out).mono ?_
  rintro e w13 ⟨v0, v1, rfl, ho0, ho1, hb⟩
  obtain ⟨V0, p0, rfl, hl0, hC0⟩ := Kd.R_reads ho0
  obtain ⟨V1, p1, rfl, hl1, hC1⟩ := Kd.S_reads ho1
  have hV := Aside0.mk (And.intro hl0 (And.intro hC0 (And.intro hl1 hC1)))
  have K13 := Aside0.mk (below_step K12.out hb)
  have K1113 := Aside0.mk (below_step K1112.out hb)
  clear ho0 ho1 hb hl0 hC0 hl1 hC1 q20 q21
  go_wp2_with fail
  refine (impl_TurnFork.calls k3 V0 p0 l V1 p1 L a1 r1 r2 c w13 hV.out.2.1 hV.out.1 hV.out.2.2.2 hV.out.2.2.1 E3.out).mono ?_
  rintro e w14 ⟨v0, v1, rfl, ho0, ho1, hb⟩
  obtain ⟨D0, s0, rfl, hl0, hC0⟩ := Kd.R_reads ho0
  obtain ⟨D1, s1, rfl, hl1, hC1⟩ := Kd.S_reads ho1
  have hD := Aside0.mk (And.intro hl0 (And.intro (Kd.C_alloc hC0 (.cells #[.slice D0 r1.length s0, .slice D1 r2.length s1] 28)) (And.intro hl1 (Kd.C_alloc hC1 (.cells #[.slice D0 r1.length s0, .slice D1 r2.length s1] 28)))))
  have K14 := Aside0.mk (below_alloc (below_step K13.out hb) (.cells #[.slice D0 r1.length s0, .slice D1 r2.length s1] 28))
  have K1114 := Aside0.mk (below_alloc (below_step K1113.out hb) (.cells #[.slice D0 r1.length s0, .slice D1 r2.length s1] 28))
  have b14 := @new_at w14 (.cells #[.slice D0 r1.length s0, .slice D1 r2.length s1] 28) _ rfl
  have b6' := blk_below b6.out K14.out
  have qe0 := (blk_cell b14 0).trans rfl
  have qe1 := (blk_cell b14 1).trans rfl
  have q60 := (blk_cell b6' 0).trans rfl
  have q61 := (blk_cell b6' 1).trans rfl
  clear ho0 ho1 hb hl0 hC0 hl1 hC1 b14 b6'
  go_wp2_with fail
  generalize (w14.alloc (.cells #[.slice D0 r1.length s0, .slice D1 r2.length s1] 28)) = W14 at hD K14 K1114 qe0 qe1 q60 q61 ⊢
  refine (laws_eqWeb.calls k4 D0 s0 r1 D1 s1 r2 Y0 f0 r1 Y1 f1 r2 true W14 hD.out.2.1 hD.out.1 hD.out.2.2.2 hD.out.2.2.1 (Kd.C_below hY0.out K14.out) HY.out.1 (Kd.C_below hY1.out K14.out) HY.out.2.2.1 E4.out).mono ?_
  rintro e w15 ⟨rfl, hb⟩
  have K15 := Aside0.mk (below_step K14.out hb)
  have K1115 := Aside0.mk (below_step K1114.out hb)
  have b9 := blk_below B911.out K1115.out
  have q90 := (blk_cell b9 0).trans rfl
  have q91 := (blk_cell b9 1).trans rfl
  clear hb b9 qe0 qe1 q60 q61
  go_wp2_with fail
  refine calls_eqTurnFork (xs := #[.agg #[.slice G0 n0.length g0, .slice G1 N.length g1], .int .i64 1]) (by rw [← l0.out, ← l1.out]) ?_
  refine (laws_heldWeb.calls ka G0 g0 n0 G1 g1 N 1 U w15 (Kd.C_below (Kd.R_reads' O11.out).2.2 K1115.out) (by rw [← l0.out]; exact (Kd.R_reads' O11.out).2.1) (Kd.C_below (Kd.S_reads' S11.out).2.2 K1115.out) (by rw [← l1.out]; exact (Kd.S_reads' S11.out).2.1) EA.out).mono ?_
  rintro e w16 ⟨rfl, hb⟩
  have K16 := Aside0.mk (below_step K15.out hb)
  clear hb q90 q91
  go_wp2
  go_ret
  exact ⟨rfl, below_step hB.out K16.out⟩
set_option maxHeartbeats 4000000 in
set_option maxRecDepth 100000 in
theorem TurnFork_big (k0 : Nat) (A0 : Option Addr) (c0 : Nat) (l : List Int) (A1 : Option Addr) (c1 : Nat) (L : List (List Int)) (a1 t : Int) (w : World)
  (hr0 : Kd.C (Kd.int .i64) w A0 l.length l) (hc0 : l.length ≤ c0) (hr1 : Kd.C (Kd.slice 2 (Kd.int .i64)) w A1 L.length L) (hc1 : L.length ≤ c1) (e0 : laws_szWeb.f k0 l L 1048576 = some t) (ht : t < 0) :
  Calls Try.prog 6 #[.agg #[.slice A0 l.length c0, .slice A1 L.length c1], .int .i64 a1] w fun e w' => e = .returned (.bool true) ∧ Below w.heap.size w w' := by
 have hu25 := Try.underlying25
 have HR0 := Aside0.mk hr0
 have HR1 := Aside0.mk hr1
 have t1 : decide (t < 0) = true := decide_eq_true ht
 clear hr0 hr1 ht
 go_enter Try.func6, Try.ntmps6
 go_wp2_with fail
 have hB := below_alloc (Below.refl w.heap.size w) (.cells #[.slice A0 l.length c0, .slice A1 L.length c1] 25)
 generalize (w.alloc (.cells #[.slice A0 l.length c0, .slice A1 L.length c1] 25)) = Wa at hB ⊢
 refine (laws_szWeb.calls k0 A0 c0 l A1 c1 L 1048576 t _ (Kd.C_below HR0.out hB) hc0 (Kd.C_below HR1.out hB) hc1 e0).mono ?_
 rintro e w1 ⟨rfl, hb⟩
 have HB := Aside0.mk (below_step hB hb)
 clear hB hb
 go_wp2
 go_ret
 exact ⟨rfl, HB.out⟩
/-- What the walk asks: too much to look at, or all the steps' values. -/
def laws_FnExactTurnFork.Good (l : List Int) (L : List (List Int)) (a1 : Int) : Prop := (∃ k t, laws_szWeb.f k l L 1048576 = some t ∧ t < 0) ∨ ∃ (k0 k1 k2 k3 k4 k5 k6 k7 k8 k9 ka : Nat) (t c : Int) (r1 : List Int) (r2 : List (List Int)) (T0 T U0 U : Int) (m0 n0 : List Int) (M N : List (List Int)), laws_szWeb.f k0 l L 1048576 = some t ∧ 0 ≤ t ∧ laws_toWeb.f k1 l L = some (l, L) ∧ spec_TurnFork.f k2 l L a1 = some (r1, r2, c) ∧ impl_TurnFork.f k3 l L a1 = some (r1, r2, c) ∧ laws_eqWeb.f k4 r1 r2 r1 r2 = some true ∧ laws_eqWeb.f k5 l L l L = some true ∧
  laws_markInt64S.f k6 l 1 = some (T0, m0) ∧ laws_markInt64SS.f k7 L T0 = some (T, M) ∧ 0 ≤ T ∧ laws_markInt64S.f k8 r1 1 = some (U0, n0) ∧ laws_markInt64SS.f k9 r2 U0 = some (U, N) ∧ 0 ≤ U ∧ laws_heldWeb.f ka n0 N 1 = some U ∧ L.length ≤ 1000000000 ∧ r2.length ≤ 1000000000
theorem laws_FnExactTurnFork.calls (A0 : Option Addr) (c0 : Nat) (l : List Int) (A1 : Option Addr) (c1 : Nat) (L : List (List Int)) (a1 : Int) (r : Bool) (w : World)
  (hr0 : Kd.C (Kd.int .i64) w A0 l.length l) (hc0 : l.length ≤ c0) (hr1 : Kd.C (Kd.slice 2 (Kd.int .i64)) w A1 L.length L) (hc1 : L.length ≤ c1) (h : laws_FnExactTurnFork.Good l L a1 ∧ r = true) :
  Calls Try.prog 6 #[.agg #[.slice A0 l.length c0, .slice A1 L.length c1], .int .i64 a1] w fun e w' => e = .returned (.bool r) ∧ Below w.heap.size w w' := by
 obtain ⟨h, rfl⟩ := h
 rcases h with ⟨k, t, e0, ht⟩ | ⟨k0, k1, k2, k3, k4, k5, k6, k7, k8, k9, ka, t, c, r1, r2, T0, T, U0, U, m0, n0, M, N, e0, ht, e1, e2, e3, e4, e5, e6, e7, hT, e8, e9, hU, ea, hL, h2⟩
 ·exact TurnFork_big k A0 c0 l A1 c1 L a1 t w hr0 hc0 hr1 hc1 e0 ht
 ·exact TurnFork_returns k0 k1 k2 k3 k4 k5 k6 k7 k8 k9 ka A0 c0 l A1 c1 L a1 t c r1 r2 T0 T U0 U m0 n0 M N w hr0 hc0 hr1 hc1 e0 ht e1 e2 e3 e4 e5 e6 e7 hT e8 e9 hU ea hL h2

end Go.Proofs.Ytnlhhbnoccobmaa.F
