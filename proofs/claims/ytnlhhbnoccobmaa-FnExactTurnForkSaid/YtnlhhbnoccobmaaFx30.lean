/- What spec_TurnFork answers, and that the Go text comes to it: for every world in which the arguments read as told. -/
import Derived.Test.YtnlhhbnoccobmaaFgA
import Derived.Test.YtnlhhbnoccobmaaFgT
import Derived.Test.YtnlhhbnoccobmaaFx110
import Derived.Test.YtnlhhbnoccobmaaPureMem
import Derived.Test.YtnlhhbnoccobmaaPureWebC
import Derived.WalkSpells
import Derived.BigRegion
import Derived.BigQuiet
namespace Go.Proofs.Ytnlhhbnoccobmaa.F
open Go.RowKit Go.Proofs.YtnlhhbnoccobmaaW.PrintWords Go.Proofs.YtnlhhbnoccobmaaW.PrintLast Go.Proofs.YtnlhhbnoccobmaaW.PrintMore
attribute [local go_sem] max2_int min2_int max_two min_two max_three min_three max_four min_four   -- for this text's walks alone
set_option linter.unusedVariables false
set_option linter.unusedSimpArgs false

/-! ### spec_TurnFork: function 30 (by hand) -/
open Go.Proofs.Ytnlhhbnoccobmaa.Mem Go.Proofs.Ytnlhhbnoccobmaa.Web
set_option maxHeartbeats 8000000 in
set_option maxRecDepth 100000 in
theorem sturn_one (k : Nat) (A0_0 : Option Addr) (c0_0 : Nat) (l0_0 : List Int) (A0_1 : Option Addr) (c0_1 : Nat) (l0_1 : List (List Int)) (i : Nat) (r1 : List Int) (r2 : List (List Int)) (w : World) (hr0_0 : Kd.C (Kd.int .i64) w A0_0 l0_0.length l0_0) (hc0_0 : l0_0.length ≤ c0_0) (hr0_1 : Kd.C (Kd.slice 2 (Kd.int .i64)) w A0_1 l0_1.length l0_1) (hc0_1 : l0_1.length ≤ c0_1) (h1 : spec_l06Is.f k l0_0 l0_1 = some true) (h3 : spec_l01In.f (i : Int) 0 (wrap64 ((l0_1.length : Int) - 1)) = some true) (h2 : spec_l06Copy.f k l0_0 l0_1 = some (r1, r2)) (hi : i < r2.length) (hl3 : (r2.getD i []).length = 3) :
  Calls Try.prog 30 #[.agg #[.slice A0_0 l0_0.length c0_0, .slice A0_1 l0_1.length c0_1], .int .i64 (i : Int)] w fun e w' => ∃ v0_ v1_ : Value, e = .returned (.tuple #[.agg #[v0_, v1_], .int .i64 0]) ∧ Kd.R (Kd.int .i64) 2 w' w.heap.size (fun _ => True) v0_ r1 ∧ Kd.S (Kd.slice 2 (Kd.int .i64)) 22 w' w.heap.size (fun k_ => some k_ ≠ (v0_ : Value).ownBlock) v1_ (r2.set i (turnRow (r2.getD i []))) ∧ Below w.heap.size w w' := by
 have hu28 := Try.underlying28
 have HR0 := Aside0.mk hr0_0
 have HC0 := Aside0.mk hc0_0
 have HR1 := Aside0.mk hr0_1
 have HC1 := Aside0.mk hc0_1
 have H1 := Aside0.mk h1
 have H2 := Aside0.mk h2
 have H3 := Aside0.mk h3
 have HI := Aside0.mk hi
 have HL3 := Aside0.mk hl3
 clear hr0_0 hc0_0 hr0_1 hc0_1 h1 h2 h3 hi hl3
 go_enter Try.func30, Try.ntmps30
 go_wp2_with fail
 have b0 : ((w.alloc (.cells #[.slice A0_0 l0_0.length c0_0, .slice A0_1 l0_1.length c0_1] 28)).alloc (.cells #[.slice none 0 0, .slice none 0 0] 28)).heap[w.heap.size]? = some (.cells #[.slice A0_0 l0_0.length c0_0, .slice A0_1 l0_1.length c0_1] 28 (0, 0)) := blk_alloc (new_at rfl) _
 have b1 : ((w.alloc (.cells #[.slice A0_0 l0_0.length c0_0, .slice A0_1 l0_1.length c0_1] 28)).alloc (.cells #[.slice none 0 0, .slice none 0 0] 28)).heap[w.heap.size + 1]? = some (.cells #[.slice none 0 0, .slice none 0 0] 28 (0, 0)) := new_at (by simp)
 have hB : Below w.heap.size w ((w.alloc (.cells #[.slice A0_0 l0_0.length c0_0, .slice A0_1 l0_1.length c0_1] 28)).alloc (.cells #[.slice none 0 0, .slice none 0 0] 28)) := below_alloc (below_alloc (Below.refl _ _) _) _
 generalize ((w.alloc (.cells #[.slice A0_0 l0_0.length c0_0, .slice A0_1 l0_1.length c0_1] 28)).alloc (.cells #[.slice none 0 0, .slice none 0 0] 28)) = W0 at b0 b1 hB ⊢
 refine (spec_l06Is.calls k A0_0 c0_0 l0_0 A0_1 c0_1 l0_1 true _ (Kd.C_below HR0.out hB) HC0.out (Kd.C_below HR1.out hB) HC1.out H1.out).mono ?_
 rintro e w1 ⟨rfl, hb1⟩
 have b0 := blk_below b0 hb1
 have b1 := blk_below b1 hb1
 have hB := below_step hB hb1
 have c0 : w1.cell? ⟨w.heap.size, 0, none⟩ = some (.slice A0_0 l0_0.length c0_0) := (blk_cell b0 0).trans rfl
 have c1 : w1.cell? ⟨w.heap.size, 1, none⟩ = some (.slice A0_1 l0_1.length c0_1) := (blk_cell b0 1).trans rfl
 have HL0 := Aside0.mk (show w.heap.size + 1 < w1.heap.size from blk_lt b1)
 have B0 := Aside0.mk b0
 have B1 := Aside0.mk b1
 have HB := Aside0.mk hB
 clear b0 b1 hB hb1
 clear b0 b1 hB
 go_wp2_with fail
 refine (spec_l01In.calls (i : Int) 0 _ true w1 H3.out).mono ?_
 rintro e w1' ⟨rfl, nd, rfl⟩
 have hBd := pw_below_drewN (Below.refl w1.heap.size w1) nd
 have HB := Aside0.mk (below_step HB.out hBd)
 have c0 : (w1.drewN nd).cell? ⟨w.heap.size, 0, none⟩ = some (.slice A0_0 l0_0.length c0_0) := c0
 have c1 : (w1.drewN nd).cell? ⟨w.heap.size, 1, none⟩ = some (.slice A0_1 l0_1.length c0_1) := c1
 have B0 := Aside0.mk (blk_drewN B0.out nd)
 have B1 := Aside0.mk (blk_drewN B1.out nd)
 have HL0 : Aside0 (w.heap.size + 1 < (w1.drewN nd).heap.size) := ⟨HL0.out⟩
 clear hBd
 generalize w1.drewN nd = w1 at HB c0 c1 B0 B1 HL0 ⊢
 go_wp2_with fail
 refine (spec_l06Copy.calls k A0_0 c0_0 l0_0 A0_1 c0_1 l0_1 r1 r2 _ (Kd.C_below HR0.out HB.out) HC0.out (Kd.C_below HR1.out HB.out) HC1.out H2.out).mono ?_
 rintro e w2 ⟨v0, v1, rfl, ho0, ho1, hb2⟩
 obtain ⟨G0, g0, rfl⟩ := Kd.R_slice ho0
 obtain ⟨G1, g1, rfl⟩ := Kd.S_slice ho1
 obtain ⟨ad, rfl, _⟩ := (Kd.S_reads' ho1).2.2.2.2 (by have := HI.out; omega)
 have O0 := Aside0.mk (Kd.R_alloc ho0 (.cells #[.slice G0 r1.length g0, .slice (some ad) r2.length g1] 28))
 have O1 := Aside0.mk (Kd.S_alloc ho1 (.cells #[.slice G0 r1.length g0, .slice (some ad) r2.length g1] 28))
 have B0 := Aside0.mk (blk_alloc (blk_below B0.out hb2) (.cells #[.slice G0 r1.length g0, .slice (some ad) r2.length g1] 28))
 have B1 := Aside0.mk (blk_alloc (blk_below B1.out hb2) (.cells #[.slice G0 r1.length g0, .slice (some ad) r2.length g1] 28))
 have b7 := @new_at w2 (.cells #[.slice G0 r1.length g0, .slice (some ad) r2.length g1] 28) _ rfl
 have HB2 := Aside0.mk (below_alloc (below_step HB.out hb2) (.cells #[.slice G0 r1.length g0, .slice (some ad) r2.length g1] 28))
 have c70 : (w2.alloc (.cells #[.slice G0 r1.length g0, .slice (some ad) r2.length g1] 28)).cell? ⟨w2.heap.size, 0, none⟩ = _ := (blk_cell b7 0).trans rfl
 have c71 : (w2.alloc (.cells #[.slice G0 r1.length g0, .slice (some ad) r2.length g1] 28)).cell? ⟨w2.heap.size, 1, none⟩ = _ := (blk_cell b7 1).trans rfl
 obtain ⟨oki, cs, hcl, hM, hcc, hoki, hback⟩ := Kd.S_borrow O1.out [] (i : Int) (by omega) (by have := HI.out; omega)
 obtain ⟨v, rfl, hR⟩ := hM
 have hrow := hcc 0 v rfl
 rw [show (Kd.slice 2 (Kd.int .i64)).sz = 1 from rfl, Nat.mul_one, Nat.add_zero, Int.toNat_natCast] at hrow
 rw [Int.toNat_natCast] at hR hback
 obtain ⟨g, co, rfl, gb, gl, cl, HG⟩ := Kd.R_form hR (by have := HL3.out; omega)
 rw [HL3.out] at hrow
 have hi1 : i < r2.length := HI.out
 have t9 : decide ((i : Int) < (r2.length : Int)) = true := decide_eq_true (by omega)
 have B7 := Aside0.mk b7
 have GBW := Aside0.mk gb
 have HRW := Aside0.mk hR
 have HBK := Aside0.mk (fun (W' : World) (row' : List Int) (hg : (w2.alloc (.cells #[.slice G0 r1.length g0, .slice (some ad) r2.length g1] 28)).grownBy W' (some g)) (hm : Kd.R (Kd.int .i64) 2 W' w1.heap.size oki (.slice (some ⟨g, 0, none⟩) (r2.getD i []).length co) row') => hback (x' := row') hg (fun k hk => hR.1 k hk) ⟨_, rfl, hm⟩)
 have HOK := Aside0.mk hoki
 obtain ⟨cells, HG⟩ := (⟨cl, HG⟩ : ∃ cells, (w2.alloc (.cells #[.slice G0 r1.length g0, .slice (some ad) r2.length g1] 28)).heap[g]? = some (.cells cells 2 (0, 0)))
 have hne7 : g ≠ w2.heap.size := fun e => by rw [e, B7.out] at HG; simp at HG
 have hne1 : g ≠ w.heap.size + 1 := fun e => by rw [e, B1.out] at HG; simp at HG
 have hneG : some g ≠ (Value.slice G0 r1.length g0).ownBlock := (HOK.out g (HRW.out.1 g rfl)).1
 have hl3 := HL3.out
 obtain ⟨y1, hy1⟩ : ∃ y, y = (r2.getD i []).getD 1 0 := ⟨_, rfl⟩
 obtain ⟨y2, hy2⟩ : ∃ y, y = (r2.getD i []).getD 2 0 := ⟨_, rfl⟩
 clear ho0 ho1 hb2 b7 c0 c1 hcc hcl hback hR
 obtain ⟨W3, hW3⟩ : ∃ W3, W3 = (w2.alloc (.cells #[.slice G0 r1.length g0, .slice (some ad) r2.length g1] 28)) := ⟨_, rfl⟩
 rw [← hW3] at O0 O1 B0 B1 HB2 c70 c71 HBK HRW B7 HG hrow
 have x1 : W3.cell? ⟨g, 1, none⟩ = some (.int .i64 y1) := by
  have := (Kd.R_celln 0 HRW.out (1 : Int) (by omega) (by omega)).1
  rw [hy1]; simpa [rdOf, rd] using this
 have x2 : W3.cell? ⟨g, 2, none⟩ = some (.int .i64 y2) := by
  have := (Kd.R_celln 0 HRW.out (2 : Int) (by omega) (by omega)).1
  rw [hy2]; simpa [rdOf, rd] using this
 have f1 : W3.frozen? ⟨g, 1, none⟩ = false := (Kd.R_celln 0 HRW.out (1 : Int) (by omega) (by omega)).2
 have f2 : W3.frozen? ⟨g, 2, none⟩ = false := (Kd.R_celln 0 HRW.out (2 : Int) (by omega) (by omega)).2
 have f2' : (W3.setCell ⟨g, 1, none⟩ (.int .i64 y2)).frozen? ⟨g, 2, none⟩ = false := (World.frozen?_setCell _ _ _ _).trans f2
 have HY1 := Aside0.mk hy1
 have HY2 := Aside0.mk hy2
 have N7 := Aside0.mk hne7
 have N1 := Aside0.mk hne1
 have NG := Aside0.mk hneG
 clear hne7 hne1 hneG hl3 hy1 hy2 HG hoki gl gb f2
 have hGrow : W3.grownBy ((W3.setCell ⟨g, 1, none⟩ (.int .i64 y2)).setCell ⟨g, 2, none⟩ (.int .i64 y1)) (some g) := grown_set (grown_set (grown_refl W3 (some g)) 1 _) 2 _
 have hrr := Kd.R_putn (Kd.R_putn HRW.out (1 : Int) y2) (2 : Int) y1
 have S5 := HBK.out _ _ hGrow hrr
 have e : ((r2.getD i []).set (1 : Int).toNat y2).set (2 : Int).toNat y1 = turnRow (r2.getD i []) := by unfold turnRow; rw [HY1.out, HY2.out]; rfl
 rw [e] at S5
 have R5 := (Kd.R_far (p := ⟨g, 2, none⟩) (Kd.R_far (p := ⟨g, 1, none⟩) (Kd.R_tight rfl O0.out) (fun k hk q => NG.out (by rw [← hk, q])) (.int .i64 y2)) (fun k hk q => NG.out (by rw [← hk, q])) (.int .i64 y1))
 have b15 := (blk_far (blk_far B1.out (p := ⟨g, 1, none⟩) (Ne.symm N1.out) (.int .i64 y2)) (p := ⟨g, 2, none⟩) (Ne.symm N1.out) (.int .i64 y1))
 have b75 := (blk_far (blk_far B7.out (p := ⟨g, 1, none⟩) (Ne.symm N7.out) (.int .i64 y2)) (p := ⟨g, 2, none⟩) (Ne.symm N7.out) (.int .i64 y1))
 have hgw : w.heap.size ≤ g := Nat.le_trans (below_size HB.out) GBW.out
 have hB5 := (below_set (j := 2) (v := .int .i64 y1) (below_set (j := 1) (v := .int .i64 y2) HB2.out hgw) hgw)
 have c750 := (blk_cell b75 0).trans rfl
 have c751 := (blk_cell b75 1).trans rfl
 have z0 := blk_frozen b15 0
 have z1 := blk_frozen b15 1
 have d0 := (blk_cell b15 0).trans rfl
 have d1 := (blk_cell b15 1).trans rfl
 have R5 := Aside0.mk R5
 have S5 := Aside0.mk S5
 have B15 := Aside0.mk b15
 have HB5 := Aside0.mk hB5
 clear b15 b75 hB5 hrr hGrow e O0 O1 B0 B1 HB2 HBK HRW B7
 subst hW3
 go_wp2_with fail
 refine bodyPost_ret (results_ct rfl _ _ (w.heap.size + 1) 28 #[.slice G0 r1.length g0, .slice (some ad) r2.length g1] (0, 0) _ rfl (blk_put (cs := #[.slice G0 r1.length g0, .slice none 0 0]) (blk_put (cs := #[.slice none 0 0, .slice none 0 0]) B15.out 0 _ rfl) 1 _ rfl) Try.underlying28 rfl (by kernel_rfl)) rfl ?_
 refine ⟨_, _, rfl, ?_, ?_, below_set (below_set HB5.out (Nat.le_succ _)) (Nat.le_succ _)⟩
 ·exact Kd.R_lower (Kd.R_mono (Kd.R_far (p := ⟨w.heap.size + 1, 1, none⟩) (Kd.R_far (p := ⟨w.heap.size + 1, 0, none⟩) (Kd.R_types R5.out B15.out (by decide)) (fun _ hk => hk.2) _) (fun _ hk => hk.2) _) (fun _ hk => trivial)) (below_size HB.out)
 ·exact Kd.S_lower (Kd.S_mono (Kd.S_far (p := ⟨w.heap.size + 1, 1, none⟩) (Kd.S_far (p := ⟨w.heap.size + 1, 0, none⟩) (Kd.S_types S5.out B15.out (by decide)) (fun _ hk => hk.2) _) (fun _ hk => hk.2) _) (fun _ hk => hk.1)) (below_size HB.out)
set_option maxHeartbeats 8000000 in
set_option maxRecDepth 100000 in
theorem sturn_two (k : Nat) (A0_0 : Option Addr) (c0_0 : Nat) (l0_0 : List Int) (A0_1 : Option Addr) (c0_1 : Nat) (l0_1 : List (List Int)) (a1 : Int) (w : World) (hr0_0 : Kd.C (Kd.int .i64) w A0_0 l0_0.length l0_0) (hc0_0 : l0_0.length ≤ c0_0) (hr0_1 : Kd.C (Kd.slice 2 (Kd.int .i64)) w A0_1 l0_1.length l0_1) (hc0_1 : l0_1.length ≤ c0_1) (h1 : spec_l06Is.f k l0_0 l0_1 = some false) :
  Calls Try.prog 30 #[.agg #[.slice A0_0 l0_0.length c0_0, .slice A0_1 l0_1.length c0_1], .int .i64 a1] w fun e w' => e = .returned (.tuple #[.agg #[.slice none 0 0, .slice none 0 0], .int .i64 1]) ∧ Below w.heap.size w w' := by
 have hu28 := Try.underlying28
 have HR0 := Aside0.mk hr0_0
 have HC0 := Aside0.mk hc0_0
 have HR1 := Aside0.mk hr0_1
 have HC1 := Aside0.mk hc0_1
 have H1 := Aside0.mk h1
 clear hr0_0 hc0_0 hr0_1 hc0_1 h1
 go_enter Try.func30, Try.ntmps30
 go_wp2_with fail
 have b0 : ((w.alloc (.cells #[.slice A0_0 l0_0.length c0_0, .slice A0_1 l0_1.length c0_1] 28)).alloc (.cells #[.slice none 0 0, .slice none 0 0] 28)).heap[w.heap.size]? = some (.cells #[.slice A0_0 l0_0.length c0_0, .slice A0_1 l0_1.length c0_1] 28 (0, 0)) := blk_alloc (new_at rfl) _
 have b1 : ((w.alloc (.cells #[.slice A0_0 l0_0.length c0_0, .slice A0_1 l0_1.length c0_1] 28)).alloc (.cells #[.slice none 0 0, .slice none 0 0] 28)).heap[w.heap.size + 1]? = some (.cells #[.slice none 0 0, .slice none 0 0] 28 (0, 0)) := new_at (by simp)
 have hB : Below w.heap.size w ((w.alloc (.cells #[.slice A0_0 l0_0.length c0_0, .slice A0_1 l0_1.length c0_1] 28)).alloc (.cells #[.slice none 0 0, .slice none 0 0] 28)) := below_alloc (below_alloc (Below.refl _ _) _) _
 generalize ((w.alloc (.cells #[.slice A0_0 l0_0.length c0_0, .slice A0_1 l0_1.length c0_1] 28)).alloc (.cells #[.slice none 0 0, .slice none 0 0] 28)) = W0 at b0 b1 hB ⊢
 refine (spec_l06Is.calls k A0_0 c0_0 l0_0 A0_1 c0_1 l0_1 false _ (Kd.C_below HR0.out hB) HC0.out (Kd.C_below HR1.out hB) HC1.out H1.out).mono ?_
 rintro e w1 ⟨rfl, hb1⟩
 have b0 := blk_below b0 hb1
 have b1 := blk_below b1 hb1
 have hB := below_step hB hb1
 have c1 : w1.cell? ⟨w.heap.size, 1, none⟩ = some (.slice A0_1 l0_1.length c0_1) := (blk_cell b0 1).trans rfl
 have z0 := blk_frozen b1 0
 have z1 := blk_frozen b1 1
 have d0 := (blk_cell b1 0).trans rfl
 have d1 := (blk_cell b1 1).trans rfl
 have B1 := Aside0.mk b1
 have HB := Aside0.mk hB
 clear b0 b1 hB hb1
 clear b0 b1 hB
 go_wp2_with fail
 refine bodyPost_ret (results_ct rfl _ _ (w.heap.size + 1) 28 #[.slice none 0 0, .slice none 0 0] (0, 0) _ rfl (blk_put (cs := #[.slice none 0 0, .slice none 0 0]) (blk_put (cs := #[.slice none 0 0, .slice none 0 0]) B1.out 0 _ rfl) 1 _ rfl) Try.underlying28 rfl (by kernel_rfl)) rfl ?_
 exact ⟨rfl, below_set (below_set HB.out (Nat.le_succ _)) (Nat.le_succ _)⟩

set_option maxHeartbeats 8000000 in
set_option maxRecDepth 100000 in
theorem sturn_three (k : Nat) (A0_0 : Option Addr) (c0_0 : Nat) (l0_0 : List Int) (A0_1 : Option Addr) (c0_1 : Nat) (l0_1 : List (List Int)) (a1 : Int) (w : World) (hr0_0 : Kd.C (Kd.int .i64) w A0_0 l0_0.length l0_0) (hc0_0 : l0_0.length ≤ c0_0) (hr0_1 : Kd.C (Kd.slice 2 (Kd.int .i64)) w A0_1 l0_1.length l0_1) (hc0_1 : l0_1.length ≤ c0_1) (h1 : spec_l06Is.f k l0_0 l0_1 = some true) (h3 : spec_l01In.f a1 0 (wrap64 ((l0_1.length : Int) - 1)) = some false) :
  Calls Try.prog 30 #[.agg #[.slice A0_0 l0_0.length c0_0, .slice A0_1 l0_1.length c0_1], .int .i64 a1] w fun e w' => e = .returned (.tuple #[.agg #[.slice none 0 0, .slice none 0 0], .int .i64 2]) ∧ Below w.heap.size w w' := by
 have hu28 := Try.underlying28
 have HR0 := Aside0.mk hr0_0
 have HC0 := Aside0.mk hc0_0
 have HR1 := Aside0.mk hr0_1
 have HC1 := Aside0.mk hc0_1
 have H1 := Aside0.mk h1
 clear hr0_0 hc0_0 hr0_1 hc0_1 h1
 go_enter Try.func30, Try.ntmps30
 go_wp2_with fail
 have b0 : ((w.alloc (.cells #[.slice A0_0 l0_0.length c0_0, .slice A0_1 l0_1.length c0_1] 28)).alloc (.cells #[.slice none 0 0, .slice none 0 0] 28)).heap[w.heap.size]? = some (.cells #[.slice A0_0 l0_0.length c0_0, .slice A0_1 l0_1.length c0_1] 28 (0, 0)) := blk_alloc (new_at rfl) _
 have b1 : ((w.alloc (.cells #[.slice A0_0 l0_0.length c0_0, .slice A0_1 l0_1.length c0_1] 28)).alloc (.cells #[.slice none 0 0, .slice none 0 0] 28)).heap[w.heap.size + 1]? = some (.cells #[.slice none 0 0, .slice none 0 0] 28 (0, 0)) := new_at (by simp)
 have hB : Below w.heap.size w ((w.alloc (.cells #[.slice A0_0 l0_0.length c0_0, .slice A0_1 l0_1.length c0_1] 28)).alloc (.cells #[.slice none 0 0, .slice none 0 0] 28)) := below_alloc (below_alloc (Below.refl _ _) _) _
 generalize ((w.alloc (.cells #[.slice A0_0 l0_0.length c0_0, .slice A0_1 l0_1.length c0_1] 28)).alloc (.cells #[.slice none 0 0, .slice none 0 0] 28)) = W0 at b0 b1 hB ⊢
 refine (spec_l06Is.calls k A0_0 c0_0 l0_0 A0_1 c0_1 l0_1 true _ (Kd.C_below HR0.out hB) HC0.out (Kd.C_below HR1.out hB) HC1.out H1.out).mono ?_
 rintro e w1 ⟨rfl, hb1⟩
 have b0 := blk_below b0 hb1
 have b1 := blk_below b1 hb1
 have hB := below_step hB hb1
 have c1 : w1.cell? ⟨w.heap.size, 1, none⟩ = some (.slice A0_1 l0_1.length c0_1) := (blk_cell b0 1).trans rfl
 have z0 := blk_frozen b1 0
 have z1 := blk_frozen b1 1
 have d0 := (blk_cell b1 0).trans rfl
 have d1 := (blk_cell b1 1).trans rfl
 have B1 := Aside0.mk b1
 have HB := Aside0.mk hB
 clear b0 b1 hB hb1
 clear b0 b1 hB
 go_wp2_with fail
 refine (spec_l01In.calls a1 0 _ false w1 h3).mono ?_
 rintro e w1' ⟨rfl, nd, rfl⟩
 have B1 := Aside0.mk (blk_drewN B1.out nd)
 have HB := Aside0.mk (pw_below_drewN HB.out nd)
 have z0 := blk_frozen B1.out 0
 have z1 := blk_frozen B1.out 1
 have d0 := (blk_cell B1.out 0).trans rfl
 have d1 := (blk_cell B1.out 1).trans rfl
 go_wp2_with fail
 refine bodyPost_ret (results_ct rfl _ _ (w.heap.size + 1) 28 #[.slice none 0 0, .slice none 0 0] (0, 0) _ rfl (blk_put (cs := #[.slice none 0 0, .slice none 0 0]) (blk_put (cs := #[.slice none 0 0, .slice none 0 0]) B1.out 0 _ rfl) 1 _ rfl) Try.underlying28 rfl (by kernel_rfl)) rfl ?_
 exact ⟨rfl, below_set (below_set HB.out (Nat.le_succ _)) (Nat.le_succ _)⟩

def spec_TurnFork.f (k : Nat) (l0_0 : List Int) (l0_1 : List (List Int)) (a1 : Int) : Option (List Int × (List (List Int)) × Int) := (spec_l06Is.f k l0_0 l0_1).bind fun t => if t = true then (spec_l01In.f a1 0 (wrap64 ((l0_1.length : Int) - 1))).bind fun u => (if u = true then (spec_l06Copy.f k l0_0 l0_1).bind fun b => (if 0 ≤ a1 ∧ a1 < (b.2.length : Int) ∧ (b.2.getD a1.toNat []).length = 3 then some (b.1, b.2.set a1.toNat (turnRow (b.2.getD a1.toNat [])), 0) else none) else some ([], [], 2)) else some ([], [], 1)
theorem spec_TurnFork.calls (k : Nat) (A0_0 : Option Addr) (c0_0 : Nat) (l0_0 : List Int) (A0_1 : Option Addr) (c0_1 : Nat) (l0_1 : List (List Int)) (a1 : Int) (r1 : List Int) (r2 : List (List Int)) (r3 : Int) (w : World) (hr0_0 : Kd.C (Kd.int .i64) w A0_0 l0_0.length l0_0) (hc0_0 : l0_0.length ≤ c0_0) (hr0_1 : Kd.C (Kd.slice 2 (Kd.int .i64)) w A0_1 l0_1.length l0_1) (hc0_1 : l0_1.length ≤ c0_1) (h : spec_TurnFork.f k l0_0 l0_1 a1 = some (r1, r2, r3)) :
  Calls Try.prog 30 #[.agg #[.slice A0_0 l0_0.length c0_0, .slice A0_1 l0_1.length c0_1], .int .i64 a1] w fun e w' => ∃ v0_ v1_ : Value, e = .returned (.tuple #[.agg #[v0_, v1_], .int .i64 r3]) ∧ Kd.R (Kd.int .i64) 2 w' w.heap.size (fun _ => True) v0_ r1 ∧ Kd.S (Kd.slice 2 (Kd.int .i64)) 22 w' w.heap.size (fun k_ => some k_ ≠ (v0_ : Value).ownBlock) v1_ r2 ∧ Below w.heap.size w w' := by
 unfold spec_TurnFork.f at h
 obtain ⟨t, ht, h⟩ := Option.bind_eq_some_iff.1 h
 cases t with
 | false =>
  rw [if_neg (by simp)] at h
  simp only [Option.some.injEq, Prod.mk.injEq] at h
  obtain ⟨rfl, rfl, rfl⟩ := h
  refine (sturn_two k A0_0 c0_0 l0_0 A0_1 c0_1 l0_1 a1 w hr0_0 hc0_0 hr0_1 hc0_1 ht).mono ?_
  rintro e w' ⟨rfl, hb⟩
  exact ⟨_, _, rfl, Kd.R_nil _ _ _ _ _, Kd.S_nil _ _ _ _ _, hb⟩
 | true =>
  rw [if_pos rfl] at h
  obtain ⟨u, hu, h⟩ := Option.bind_eq_some_iff.1 h
  cases u with
  | false =>
   rw [if_neg (by simp)] at h
   simp only [Option.some.injEq, Prod.mk.injEq] at h
   obtain ⟨rfl, rfl, rfl⟩ := h
   refine (sturn_three k A0_0 c0_0 l0_0 A0_1 c0_1 l0_1 a1 w hr0_0 hc0_0 hr0_1 hc0_1 ht hu).mono ?_
   rintro e w' ⟨rfl, hb⟩
   exact ⟨_, _, rfl, Kd.R_nil _ _ _ _ _, Kd.S_nil _ _ _ _ _, hb⟩
  | true =>
   rw [if_pos rfl] at h
   obtain ⟨⟨u1, u2⟩, hv, h⟩ := Option.bind_eq_some_iff.1 h
   by_cases q : 0 ≤ a1 ∧ a1 < (u2.length : Int) ∧ (u2.getD a1.toNat []).length = 3
   ·rw [if_pos q] at h
    simp only [Option.some.injEq, Prod.mk.injEq] at h
    obtain ⟨rfl, rfl, rfl⟩ := h
    obtain ⟨i, rfl⟩ : ∃ i : Nat, a1 = (i : Int) := ⟨a1.toNat, by omega⟩
    rw [Int.toNat_natCast] at q ⊢
    exact sturn_one k A0_0 c0_0 l0_0 A0_1 c0_1 l0_1 i u1 u2 w hr0_0 hc0_0 hr0_1 hc0_1 ht hu hv (by omega) q.2.2
   ·rw [if_neg q] at h; exact absurd h (by simp)

end Go.Proofs.Ytnlhhbnoccobmaa.F
