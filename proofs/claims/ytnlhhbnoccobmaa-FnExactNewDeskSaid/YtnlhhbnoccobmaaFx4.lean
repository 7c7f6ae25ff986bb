/- What laws_FnExactNewDesk answers, and that the Go text comes to it: for every world in which the arguments read as told. -/
import Derived.Test.YtnlhhbnoccobmaaFgA
import Derived.Test.YtnlhhbnoccobmaaFx102
import Derived.Test.YtnlhhbnoccobmaaFx24
import Derived.Test.YtnlhhbnoccobmaaFx25
import Derived.Test.YtnlhhbnoccobmaaFx112
import Derived.Test.YtnlhhbnoccobmaaFx26
import Derived.Test.YtnlhhbnoccobmaaFx27
import Derived.Test.YtnlhhbnoccobmaaPureMem
import Derived.WalkSpells
import Derived.BigQuiet
namespace Go.Proofs.Ytnlhhbnoccobmaa.F
open Go.RowKit Go.Proofs.YtnlhhbnoccobmaaW.PrintWords Go.Proofs.YtnlhhbnoccobmaaW.PrintLast Go.Proofs.YtnlhhbnoccobmaaW.PrintMore
attribute [local go_sem] max2_int min2_int max_two min_two max_three min_three max_four min_four   -- for this text's walks alone
set_option linter.unusedVariables false
set_option linter.unusedSimpArgs false

/-! ### laws_FnExactNewDesk: function 4 (by hand) -/
open Go.Proofs.Ytnlhhbnoccobmaa.Mem
theorem desk_eq : laws_eqDesk.f 60 [0, 1, 0, 1] 5 [] [0, 1, 2] [[0, 1, 2]] [0, 1, 0, 1] 5 [] [0, 1, 2] [[0, 1, 2]] = some true := by kernel_rfl
theorem desk_m0 : laws_markInt64S.f 60 [0, 1, 0, 1] 1 = some (5, [1, 2, 3, 4]) := by kernel_rfl
theorem desk_m3 : laws_markInt64S.f 60 [0, 1, 2] 5 = some (8, [5, 6, 7]) := by kernel_rfl
theorem desk_m4 : laws_markInt64SS.f 60 [[0, 1, 2]] 8 = some (11, [[8, 9, 10]]) := by kernel_rfl
theorem desk_held : laws_heldDesk.f 60 [1, 2, 3, 4] 5 [] [5, 6, 7] [[8, 9, 10]] 1 = some 11 := by kernel_rfl
set_option maxHeartbeats 8000000 in
set_option maxRecDepth 100000 in
theorem newDesk_law (w : World) : Calls Try.prog 4 #[] w fun e w' => e = .returned (.bool true) ∧ Below w.heap.size w w' := by
  have hu36 := Try.underlying36
  go_enter Try.func4, Try.ntmps4
  go_wp2_with fail
  refine (specDesk_walk w).mono ?_
  rintro e w1 ⟨X0, X2, X3, X4, x0, x2, x3, x4, rfl, hx0, hx3, hx4, hb1, hC0, hC3, hC4⟩
  obtain ⟨D1, hD1⟩ : ∃ D, D = Obj.cells #[.slice X0 4 x0, .int .i64 5, .slice X2 0 x2, .slice X3 3 x3, .slice X4 1 x4] 36 (0, 0) := ⟨_, rfl⟩
  have HC0 := Aside0.mk (Kd.C_alloc hC0 D1)
  have HC3 := Aside0.mk (Kd.C_alloc hC3 D1)
  have HC4 := Aside0.mk (Kd.C_alloc hC4 D1)
  have HX0 := Aside0.mk hx0
  have HX3 := Aside0.mk hx3
  have HX4 := Aside0.mk hx4
  have b1 := @new_at w1 D1 _ rfl
  have HB1 := Aside0.mk (below_alloc hb1 D1)
  rw [hD1] at b1 HC0 HC3 HC4 HB1
  have B1 := Aside0.mk b1
  clear hC0 hC3 hC4 hx0 hx3 hx4 hb1 b1 hD1
  go_wp2_with fail
  generalize (w1.alloc (.cells #[.slice X0 4 x0, .int .i64 5, .slice X2 0 x2, .slice X3 3 x3, .slice X4 1 x4] 36)) = W1 at HC0 HC3 HC4 HB1 B1 ⊢
  refine (newDesk_walk W1).mono ?_
  rintro e w2 ⟨v0, v3, v4, rfl, hr0, hr3, hs4, hne, hb2⟩
  obtain ⟨Y0, y0, rfl⟩ := Kd.R_slice hr0
  obtain ⟨Y3, y3, rfl⟩ := Kd.R_slice hr3
  obtain ⟨Y4, y4, rfl⟩ := Kd.S_slice hs4
  obtain ⟨D2, hD2⟩ : ∃ D, D = Obj.cells #[.slice Y0 4 y0, .int .i64 5, .slice none 0 0, .slice Y3 3 y3, .slice Y4 1 y4] 36 (0, 0) := ⟨_, rfl⟩
  have R0 := Aside0.mk (Kd.R_alloc (Kd.R_mono (ok' := fun k => some k = (Value.slice Y0 4 y0).ownBlock ∧ k < w2.heap.size) (Kd.R_bound hr0) (fun k hk => ⟨hk.1, hk.2.2.1⟩)) D2)
  have R3 := Aside0.mk (Kd.R_alloc (Kd.R_mono (ok' := fun k => some k = (Value.slice Y3 3 y3).ownBlock ∧ k < w2.heap.size) (Kd.R_bound hr3) (fun k hk => ⟨hk.1, hk.2.2.1⟩)) D2)
  have S4 := Aside0.mk (Kd.S_alloc (Kd.S_mono (ok' := fun k => (some k ≠ (Value.slice Y0 4 y0).ownBlock ∧ some k ≠ (Value.slice Y3 3 y3).ownBlock) ∧ k < w2.heap.size) (Kd.S_bound hs4) (fun k hk => ⟨hk.1, hk.2.2.1⟩)) D2)
  have b2 := @new_at w2 D2 _ rfl
  have K2 := Aside0.mk (below_alloc hb2 D2)
  have Z2 := Aside0.mk (show (w2.alloc D2).heap.size = w2.heap.size + 1 by simp)
  have HNE := Aside0.mk hne
  rw [hD2] at b2 R0 R3 S4 K2 Z2
  have b1' := blk_below B1.out K2.out
  have q10 := (blk_cell b1' 0).trans rfl
  have q11 := (blk_cell b1' 1).trans rfl
  have q12 := (blk_cell b1' 2).trans rfl
  have q13 := (blk_cell b1' 3).trans rfl
  have q14 := (blk_cell b1' 4).trans rfl
  have q20 := (blk_cell b2 0).trans rfl
  have q21 := (blk_cell b2 1).trans rfl
  have q22 := (blk_cell b2 2).trans rfl
  have q23 := (blk_cell b2 3).trans rfl
  have q24 := (blk_cell b2 4).trans rfl
  have B2 := Aside0.mk b2
  clear hr0 hr3 hs4 hne hb2 b2 b1' hD2
  go_wp2_with fail
  generalize (w2.alloc (.cells #[.slice Y0 4 y0, .int .i64 5, .slice none 0 0, .slice Y3 3 y3, .slice Y4 1 y4] 36)) = W2 at R0 R3 S4 K2 Z2 q10 q11 q12 q13 q14 q20 q21 q22 q23 q24 B2 ⊢
  refine (laws_eqDesk.calls 60 Y0 y0 [0, 1, 0, 1] 5 none 0 [] Y3 y3 [0, 1, 2] Y4 y4 [[0, 1, 2]] X0 x0 [0, 1, 0, 1] 5 X2 x2 [] X3 x3 [0, 1, 2] X4 x4 [[0, 1, 2]] true W2 (Kd.R_reads' R0.out).2.2 (Kd.R_reads' R0.out).2.1 (C_zero _ _ _) (Nat.zero_le _) (Kd.R_reads' R3.out).2.2 (Kd.R_reads' R3.out).2.1 (Kd.S_reads' S4.out).2.2 (Kd.S_reads' S4.out).2.1 (Kd.C_below HC0.out K2.out) HX0.out (C_zero _ _ _) (Nat.zero_le _) (Kd.C_below HC3.out K2.out) HX3.out (Kd.C_below HC4.out K2.out) HX4.out desk_eq).mono ?_
  rintro e w3 ⟨rfl, hb3⟩
  have K3 := Aside0.mk (below_step K2.out hb3)
  have b2 := blk_below B2.out hb3
  have q20 := (blk_cell b2 0).trans rfl
  have q21 := (blk_cell b2 1).trans rfl
  have q22 := (blk_cell b2 2).trans rfl
  have q23 := (blk_cell b2 3).trans rfl
  have q24 := (blk_cell b2 4).trans rfl
  have R03 := Aside0.mk (Kd.R_below R0.out hb3)
  have R33 := Aside0.mk (Kd.R_below R3.out hb3)
  have S43 := Aside0.mk (Kd.S_below S4.out hb3)
  have B23 := Aside0.mk b2
  have L3 := Aside0.mk hb3.size
  clear hb3 b2 q10 q11 q12 q13 q14
  go_wp2_with fail
  refine (markDesk_walk 60 60 60 _ _ _ Y0 y0 [0, 1, 0, 1] 5 Y3 y3 [0, 1, 2] Y4 y4 [[0, 1, 2]] 1 5 8 11 [1, 2, 3, 4] [5, 6, 7] [[8, 9, 10]] W1 w3 K3.out (by decide) R03.out R33.out S43.out (fun k h3 h0 => HNE.out (h0.1.symm.trans h3.1)) (fun k h4 h0 => h4.1.1 h0.1) (fun k h4 h3 => h4.1.2 h3.1) desk_m0 desk_m3 desk_m4).mono ?_
  rintro e w4 ⟨rfl, hr0, hr3, hs4, hb4, hk4⟩
  have b2 := blk_kept B23.out hk4 (fun h => by have := Z2.out; rcases h with h | h | h <;> (have := h.2; omega))
  have q20 := (blk_cell b2 0).trans rfl
  have q21 := (blk_cell b2 1).trans rfl
  have q22 := (blk_cell b2 2).trans rfl
  have q23 := (blk_cell b2 3).trans rfl
  have q24 := (blk_cell b2 4).trans rfl
  have B24 := Aside0.mk b2
  have K4 := Aside0.mk hb4
  have C0 := Aside0.mk (Kd.R_reads' hr0).2
  have C3 := Aside0.mk (Kd.R_reads' hr3).2
  have C4 := Aside0.mk (Kd.S_reads' hs4).2
  clear hr0 hr3 hs4 hb4 hk4 b2
  go_wp2_with fail
  refine (laws_heldDesk.calls 60 Y0 y0 [1, 2, 3, 4] 5 none 0 [] Y3 y3 [5, 6, 7] Y4 y4 [[8, 9, 10]] 1 11 w4 C0.out.2 C0.out.1 (C_zero _ _ _) (Nat.zero_le _) C3.out.2 C3.out.1 C4.out.2 C4.out.1 desk_held).mono ?_
  rintro e w5 ⟨rfl, hb5⟩
  have K5 := Aside0.mk (below_step K4.out hb5)
  have B25 := Aside0.mk (blk_below B24.out hb5)
  have K45 := Aside0.mk hb5
  clear hb5 q20 q21 q22 q23 q24
  go_wp2_with fail
  refine (newDesk_walk w5).mono ?_
  rintro e w6 ⟨v0, v3, v4, rfl, hr0, hr3, hs4, hne, hb6⟩
  obtain ⟨G0, g0, rfl⟩ := Kd.R_slice hr0
  obtain ⟨G3, g3, rfl⟩ := Kd.R_slice hr3
  obtain ⟨G4, g4, rfl⟩ := Kd.S_slice hs4
  obtain ⟨D6, hD6⟩ : ∃ D, D = Obj.cells #[.slice G0 4 g0, .int .i64 5, .slice none 0 0, .slice G3 3 g3, .slice G4 1 g4] 36 (0, 0) := ⟨_, rfl⟩
  have E0 := Aside0.mk (And.intro (Kd.R_reads' hr0).2.1 (Kd.C_alloc (Kd.R_reads' hr0).2.2 D6))
  have E3 := Aside0.mk (And.intro (Kd.R_reads' hr3).2.1 (Kd.C_alloc (Kd.R_reads' hr3).2.2 D6))
  have E4 := Aside0.mk (And.intro (Kd.S_reads' hs4).2.1 (Kd.C_alloc (Kd.S_reads' hs4).2.2 D6))
  have b6 := @new_at w6 D6 _ rfl
  have K56 := Aside0.mk (below_alloc hb6 D6)
  have K6 := Aside0.mk (below_step K5.out K56.out)
  rw [hD6] at b6 E0 E3 E4 K6 K56
  have b1' := blk_below B1.out K6.out
  have q10 := (blk_cell b1' 0).trans rfl
  have q11 := (blk_cell b1' 1).trans rfl
  have q12 := (blk_cell b1' 2).trans rfl
  have q13 := (blk_cell b1' 3).trans rfl
  have q14 := (blk_cell b1' 4).trans rfl
  have q60 := (blk_cell b6 0).trans rfl
  have q61 := (blk_cell b6 1).trans rfl
  have q62 := (blk_cell b6 2).trans rfl
  have q63 := (blk_cell b6 3).trans rfl
  have q64 := (blk_cell b6 4).trans rfl
  clear hr0 hr3 hs4 hne hb6 b6 b1' hD6
  go_wp2_with fail
  generalize (w6.alloc (.cells #[.slice G0 4 g0, .int .i64 5, .slice none 0 0, .slice G3 3 g3, .slice G4 1 g4] 36)) = W6 at E0 E3 E4 K6 K56 q10 q11 q12 q13 q14 q60 q61 q62 q63 q64 ⊢
  refine (laws_eqDesk.calls 60 G0 g0 [0, 1, 0, 1] 5 none 0 [] G3 g3 [0, 1, 2] G4 g4 [[0, 1, 2]] X0 x0 [0, 1, 0, 1] 5 X2 x2 [] X3 x3 [0, 1, 2] X4 x4 [[0, 1, 2]] true W6 E0.out.2 E0.out.1 (C_zero _ _ _) (Nat.zero_le _) E3.out.2 E3.out.1 E4.out.2 E4.out.1 (Kd.C_below HC0.out K6.out) HX0.out (C_zero _ _ _) (Nat.zero_le _) (Kd.C_below HC3.out K6.out) HX3.out (Kd.C_below HC4.out K6.out) HX4.out desk_eq).mono ?_
  rintro e w7 ⟨rfl, hb7⟩
  have K7 := Aside0.mk (below_step K6.out hb7)
  have K47 := Aside0.mk (below_step (below_step K45.out K56.out) hb7)
  have b2 := blk_below B24.out K47.out
  have q20 := (blk_cell b2 0).trans rfl
  have q21 := (blk_cell b2 1).trans rfl
  have q22 := (blk_cell b2 2).trans rfl
  have q23 := (blk_cell b2 3).trans rfl
  have q24 := (blk_cell b2 4).trans rfl
  clear hb7 b2 q10 q11 q12 q13 q14 q60 q61 q62 q63 q64
  go_wp2_with fail
  refine (laws_heldDesk.calls 60 Y0 y0 [1, 2, 3, 4] 5 none 0 [] Y3 y3 [5, 6, 7] Y4 y4 [[8, 9, 10]] 1 11 w7 (Kd.C_below C0.out.2 K47.out) C0.out.1 (C_zero _ _ _) (Nat.zero_le _) (Kd.C_below C3.out.2 K47.out) C3.out.1 (Kd.C_below C4.out.2 K47.out) C4.out.1 desk_held).mono ?_
  rintro e w8 ⟨rfl, hb8⟩
  have K8 := Aside0.mk (below_step K7.out hb8)
  clear hb8 q20 q21 q22 q23 q24
  go_wp2
  go_ret
  exact ⟨rfl, below_step HB1.out K8.out⟩
/-- What the walk asks: nothing. -/
def laws_FnExactNewDesk.f : Option Bool := some true
theorem laws_FnExactNewDesk.calls (r : Bool) (w : World) (h : laws_FnExactNewDesk.f = some r) : Calls Try.prog 4 #[] w fun e w' => e = .returned (.bool r) ∧ Below w.heap.size w w' := by
  obtain rfl : true = r := Option.some.inj h
  exact newDesk_law w

end Go.Proofs.Ytnlhhbnoccobmaa.F
