/- What spec_l11New answers, and that the Go text comes to it: for every world in which the arguments read as told. -/
import Derived.Test.YtnlhhbnoccobmaaFgA
import Derived.Test.YtnlhhbnoccobmaaFx166
import Derived.Test.YtnlhhbnoccobmaaFx167
import Derived.Test.YtnlhhbnoccobmaaPureMem
import Derived.Deep.RegionLaw
import Derived.WalkSpells
import Derived.BigQuiet
namespace Go.Proofs.Ytnlhhbnoccobmaa.F
open Go.RowKit Go.Proofs.YtnlhhbnoccobmaaW.PrintWords Go.Proofs.YtnlhhbnoccobmaaW.PrintLast Go.Proofs.YtnlhhbnoccobmaaW.PrintMore
attribute [local go_sem] max2_int min2_int max_two min_two max_three min_three max_four min_four   -- for this text's walks alone
set_option linter.unusedVariables false
set_option linter.unusedSimpArgs false

/-! ### spec_l11New: function 102 (by hand) -/
open Go.Proofs.Ytnlhhbnoccobmaa.Mem
theorem C_zero {α : Type} (d : Kd α) (w : World) (A : Option Addr) : d.C w A 0 [] := ⟨rfl, by simp, fun h => absurd h (Nat.lt_irrefl 0)⟩
/-- What the reference's new desk reads as. -/
def specDesk (w0 w' : World) (e : Ending) : Prop := ∃ (A0 A2 A3 A4 : Option Addr) (c0 c2 c3 c4 : Nat), e = .returned (.agg #[.slice A0 4 c0, .int .i64 5, .slice A2 0 c2, .slice A3 3 c3, .slice A4 1 c4]) ∧ 4 ≤ c0 ∧ 3 ≤ c3 ∧ 1 ≤ c4 ∧ Below w0.heap.size w0 w' ∧
  ∀ W' : World, (∀ k, w0.heap.size ≤ k → k < w'.heap.size → W'.heap[k]? = w'.heap[k]?) → Kd.C (Kd.int .i64) W' A0 4 [0, 1, 0, 1] ∧ Kd.C (Kd.int .i64) W' A3 3 [0, 1, 2] ∧ Kd.C (Kd.slice 2 (Kd.int .i64)) W' A4 1 [[0, 1, 2]]
def deskPut (W : World) (b g : Nat) (T L F : Option Addr) (t l f : Nat) : World := ((((W.setCell ⟨b, 0, none⟩ (.slice (some ⟨g, 0, none⟩) 4 4)).setCell ⟨b, 1, none⟩ (.int .i64 5)).setCell ⟨b, 2, none⟩ (.slice T 0 t)).setCell ⟨b, 3, none⟩ (.slice L 3 l)).setCell ⟨b, 4, none⟩ (.slice F 1 f)
theorem deskPut_far (W : World) (b g : Nat) (T L F : Option Addr) (t l f : Nat) (k : Nat) (hk : k ≠ b) : (deskPut W b g T L F t l f).heap[k]? = W.heap[k]? := by
  unfold deskPut
  rw [Below.heap_setCell _ _ _ _ hk, Below.heap_setCell _ _ _ _ hk, Below.heap_setCell _ _ _ _ hk, Below.heap_setCell _ _ _ _ hk, Below.heap_setCell _ _ _ _ hk]
theorem deskPut_blk {W : World} {b : Nat} (g : Nat) (T L F : Option Addr) (t l f : Nat) (h : W.heap[b]? = some (.cells #[.slice none 0 0, .int .i64 0, .slice none 0 0, .slice none 0 0, .slice none 0 0] 36 (0, 0))) : (deskPut W b g T L F t l f).heap[b]? = some (.cells #[.slice (some ⟨g, 0, none⟩) 4 4, .int .i64 5, .slice T 0 t, .slice L 3 l, .slice F 1 f] 36 (0, 0)) :=
  blk_put (blk_put (blk_put (blk_put (blk_put h 0 (.slice (some ⟨g, 0, none⟩) 4 4) rfl) 1 (.int .i64 5) rfl) 2 (.slice T 0 t) rfl) 3 (.slice L 3 l) rfl) 4 (.slice F 1 f) rfl
theorem spec_fin (w W : World) (g base : Nat) (T L F : Option Addr) (t l f : Nat) (hW : W.heap[g]? = some (.cells #[.int .i64 0, .int .i64 1, .int .i64 0, .int .i64 1] 2 (0, 0))) (hg : w.heap.size < g) (hbs : w.heap.size ≤ base) (hB : Below w.heap.size w W)
    (hR : Kd.R (Kd.int .i64) 2 W base (fun k => (base ≤ k) ∧ k ≠ w.heap.size) (.slice L 3 l) [0, 1, 2]) (hN : Kd.N (Kd.slice 2 (Kd.int .i64)) 22 W base (fun k => (base ≤ k) ∧ k ≠ w.heap.size) (.slice F 1 f) [[0, 1, 2]]) :
    specDesk w (deskPut W w.heap.size g T L F t l f) (.returned (.agg #[.slice (some ⟨g, 0, none⟩) 4 4, .int .i64 5, .slice T 0 t, .slice L 3 l, .slice F 1 f])) := by
  have h1 := R_of_block_ok (xs := [0, 1, 0, 1]) (base := 0) ((deskPut_far W w.heap.size g T L F t l f g (by omega)).trans hW) rfl (by decide) (Nat.zero_le _) (fun k => k = g) rfl
  have h3 : Kd.R (Kd.int .i64) 2 (deskPut W w.heap.size g T L F t l f) base (fun k => (base ≤ k) ∧ k ≠ w.heap.size) (.slice L 3 l) [0, 1, 2] := Kd.R_step hR (fun k hk _ => deskPut_far _ _ _ _ _ _ _ _ _ k hk.2)
  have h4 : Kd.N (Kd.slice 2 (Kd.int .i64)) 22 (deskPut W w.heap.size g T L F t l f) base (fun k => (base ≤ k) ∧ k ≠ w.heap.size) (.slice F 1 f) [[0, 1, 2]] := Kd.N_step hN (fun k hk _ => deskPut_far _ _ _ _ _ _ _ _ _ k hk.2)
  refine ⟨_, _, _, _, _, _, _, _, rfl, Nat.le_refl _, (Kd.R_reads' h3).2.1, (Kd.N_reads' h4).2.1, ?_, fun W' hW' => ?_⟩
  · unfold deskPut
    exact below_set (below_set (below_set (below_set (below_set hB (Nat.le_refl _)) (Nat.le_refl _)) (Nat.le_refl _)) (Nat.le_refl _)) (Nat.le_refl _)
  · exact ⟨(Kd.R_reads' (Kd.R_step h1 (fun k hk hlt => hW' k (by omega) hlt))).2.2, (Kd.R_reads' (Kd.R_step h3 (fun k hk hlt => hW' k (by omega) hlt))).2.2, (Kd.N_reads' (Kd.N_step h4 (fun k hk hlt => hW' k (by omega) hlt))).2.2⟩
set_option maxHeartbeats 8000000 in
set_option maxRecDepth 100000 in
theorem specNew_walk (w : World) : Calls Try.prog 102 #[] w fun e w' => specDesk w w' e := by
  have hu36 := Try.underlying36
  have hu34 := Try.underlying34
  have hu28 := Try.underlying28
  have b0 := @new_at w (.cells #[.slice none 0 0, .int .i64 0, .slice none 0 0, .slice none 0 0, .slice none 0 0] 36) _ rfl
  have hB := below_alloc (Below.refl w.heap.size w) (.cells #[.slice none 0 0, .int .i64 0, .slice none 0 0, .slice none 0 0, .slice none 0 0] 36)
  go_enter Try.func102, Try.ntmps102
  go_wp2_with fail
  generalize (w.alloc (.cells #[.slice none 0 0, .int .i64 0, .slice none 0 0, .slice none 0 0, .slice none 0 0] 36)) = W0 at b0 hB ⊢
  refine (spec_l06Named.calls ⟨#[102, 111, 114, 107]⟩ [0, 1, 2] [[0, 1, 2]] true W0 (by kernel_rfl)).mono ?_
  rintro e w1 ⟨v0, v1, rfl, ho0, ho1, hb1⟩
  obtain ⟨L, l, rfl⟩ := Kd.R_slice ho0
  obtain ⟨F, f, rfl⟩ := Kd.N_slice ho1
  have hw0 := blk_lt b0
  have b0w := blk_below b0 hb1
  have R1 := Aside0.mk (Kd.R_alloc (Kd.R_types ho0 b0w (by decide)) (.cells #[.slice L 3 l, .slice F 1 f] 28))
  have N1 := Aside0.mk (Kd.N_alloc (Kd.N_mono (ok' := fun k => (W0.heap.size ≤ k) ∧ k ≠ w.heap.size) (Kd.N_bound ho1) (fun k hk => ⟨hk.1.1, fun e => by have := hk.1.1; have := blk_lt b0; omega⟩)) (.cells #[.slice L 3 l, .slice F 1 f] 28))
  have b0 := blk_alloc b0w (.cells #[.slice L 3 l, .slice F 1 f] 28)
  have hB := below_alloc (below_step hB hb1) (.cells #[.slice L 3 l, .slice F 1 f] 28)
  have b1 := @new_at w1 (.cells #[.slice L 3 l, .slice F 1 f] 28) _ rfl
  have B0 := Aside0.mk b0
  have HB := Aside0.mk hB
  clear ho0 ho1 hb1 b0w b0 hB
  go_wp2_with fail
  obtain ⟨B, hBe⟩ : ∃ B, B = w1.heap.size := ⟨_, rfl⟩
  rw [← hBe] at b1 ⊢
  clear hBe
  generalize (w1.alloc (.cells #[.slice L 3 l, .slice F 1 f] 28)) = W1 at R1 N1 B0 HB b1 ⊢
  have B1 := Aside0.mk b1
  have c0 := (blk_cell b1 0).trans rfl
  have c1 := (blk_cell b1 1).trans rfl
  have c0a := (blk_cell (blk_drew (blk_alloc b1 (.cells #[.int .i64 0, .int .i64 1, .int .i64 0, .int .i64 1] 2))) 0).trans rfl
  have c1a := (blk_cell (blk_drew (blk_alloc b1 (.cells #[.int .i64 0, .int .i64 1, .int .i64 0, .int .i64 1] 2))) 1).trans rfl
  clear b1
  go_region_law (first
    | (refine goes_ Try.func167 (by kernel_rfl) rfl #[.int .i64 5] (by rfl) rfl rfl (by simp [Act.eval, Act.put]) ?_; refine (spec_l03Empty.calls 5 5 [] _ (by kernel_rfl)).mono ?_; rintro e w5 ⟨v2, rfl, hs5, hb5⟩; obtain ⟨T2, t2, rfl⟩ := Kd.S_slice hs5; have B15 := blk_below (by first | exact B1.out | exact blk_drew B1.out | exact blk_drew (blk_alloc B1.out _)) hb5; have B05 := blk_below (by first | exact B0.out | exact blk_drew B0.out | exact blk_drew (blk_alloc B0.out _)) hb5; have c05 := (blk_cell B15 0).trans rfl; have c15 := (blk_cell B15 1).trans rfl; have c06 := (blk_cell (blk_alloc B15 (.cells #[.int .i64 0, .int .i64 1, .int .i64 0, .int .i64 1] 2)) 0).trans rfl; have c16 := (blk_cell (blk_alloc B15 (.cells #[.int .i64 0, .int .i64 1, .int .i64 0, .int .i64 1] 2)) 1).trans rfl; have z0 := blk_frozen B05 0; have z1 := blk_frozen B05 1; have z2 := blk_frozen B05 2; have z3 := blk_frozen B05 3; have z4 := blk_frozen B05 4; have d0 := (blk_cell B05 0).trans rfl; have d1 := (blk_cell B05 1).trans rfl; have d2 := (blk_cell B05 2).trans rfl; have d3 := (blk_cell B05 3).trans rfl; have d4 := (blk_cell B05 4).trans rfl; have z0a := blk_frozen (blk_alloc B05 (.cells #[.int .i64 0, .int .i64 1, .int .i64 0, .int .i64 1] 2)) 0; have z1a := blk_frozen (blk_alloc B05 (.cells #[.int .i64 0, .int .i64 1, .int .i64 0, .int .i64 1] 2)) 1; have z2a := blk_frozen (blk_alloc B05 (.cells #[.int .i64 0, .int .i64 1, .int .i64 0, .int .i64 1] 2)) 2; have z3a := blk_frozen (blk_alloc B05 (.cells #[.int .i64 0, .int .i64 1, .int .i64 0, .int .i64 1] 2)) 3; have z4a := blk_frozen (blk_alloc B05 (.cells #[.int .i64 0, .int .i64 1, .int .i64 0, .int .i64 1] 2)) 4; have d0a := (blk_cell (blk_alloc B05 (.cells #[.int .i64 0, .int .i64 1, .int .i64 0, .int .i64 1] 2)) 0).trans rfl; have d1a := (blk_cell (blk_alloc B05 (.cells #[.int .i64 0, .int .i64 1, .int .i64 0, .int .i64 1] 2)) 1).trans rfl; have d2a := (blk_cell (blk_alloc B05 (.cells #[.int .i64 0, .int .i64 1, .int .i64 0, .int .i64 1] 2)) 2).trans rfl; have d3a := (blk_cell (blk_alloc B05 (.cells #[.int .i64 0, .int .i64 1, .int .i64 0, .int .i64 1] 2)) 3).trans rfl; have d4a := (blk_cell (blk_alloc B05 (.cells #[.int .i64 0, .int .i64 1, .int .i64 0, .int .i64 1] 2)) 4).trans rfl; have HB5 := Aside0.mk hb5; have B05 := Aside0.mk B05; clear B15 hs5 hb5; refine ⟨_, rfl, ?_⟩))
  all_goals
    clear c0 c1 c0a c1a c05 c15 c06 c16
    go_wp2_with fail
    first
      | (have HC : Below (W1.alloc (.cells #[.int .i64 0, .int .i64 1, .int .i64 0, .int .i64 1] 2)).drew.heap.size (W1.alloc (.cells #[.int .i64 0, .int .i64 1, .int .i64 0, .int .i64 1] 2)).drew w5 := HB5.out; have hd := deskPut_blk W1.heap.size T2 L F t2 l f B05.out; have hf := spec_fin w w5 W1.heap.size W0.heap.size T2 L F t2 l f (blk_below (blk_drew (new_at rfl)) HC) (blk_lt B0.out) (Nat.le_of_lt hw0) (below_step (below_drew1 (below_alloc HB.out _)) HC) (Kd.R_below (Kd.R_drew (Kd.R_alloc R1.out _)) HC) (Kd.N_below (Kd.N_drew (Kd.N_alloc N1.out _)) HC); unfold deskPut at hd hf; refine bodyPost_ret (results_cell_row rfl _ _ w.heap.size 36 #[.slice (some ⟨W1.heap.size, 0, none⟩) 4 4, .int .i64 5, .slice T2 0 t2, .slice L 3 l, .slice F 1 f] (0, 0) _ rfl hd Try.underlying36 rfl (by kernel_rfl)) rfl ?_; exact hf)
      | (have HC : Below W1.drew.heap.size W1.drew w5 := HB5.out; have hd := deskPut_blk w5.heap.size T2 L F t2 l f (blk_alloc B05.out (.cells #[.int .i64 0, .int .i64 1, .int .i64 0, .int .i64 1] 2)); have hf := spec_fin w (w5.alloc (.cells #[.int .i64 0, .int .i64 1, .int .i64 0, .int .i64 1] 2)) w5.heap.size W0.heap.size T2 L F t2 l f (new_at rfl) (blk_lt B05.out) (Nat.le_of_lt hw0) (below_alloc (below_step (below_drew1 HB.out) HC) _) (Kd.R_alloc (Kd.R_below (Kd.R_drew R1.out) HC) _) (Kd.N_alloc (Kd.N_below (Kd.N_drew N1.out) HC) _); unfold deskPut at hd hf; refine bodyPost_ret (results_cell_row rfl _ _ w.heap.size 36 #[.slice (some ⟨w5.heap.size, 0, none⟩) 4 4, .int .i64 5, .slice T2 0 t2, .slice L 3 l, .slice F 1 f] (0, 0) _ rfl hd Try.underlying36 rfl (by kernel_rfl)) rfl ?_; exact hf)
set_option maxHeartbeats 4000000 in
set_option maxRecDepth 100000 in
theorem specDesk_walk (w : World) : Calls Try.prog 23 #[] w fun e w' => ∃ (A0 A2 A3 A4 : Option Addr) (c0 c2 c3 c4 : Nat), e = .returned (.agg #[.slice A0 4 c0, .int .i64 5, .slice A2 0 c2, .slice A3 3 c3, .slice A4 1 c4]) ∧ 4 ≤ c0 ∧ 3 ≤ c3 ∧ 1 ≤ c4 ∧ Below w.heap.size w w' ∧ Kd.C (Kd.int .i64) w' A0 4 [0, 1, 0, 1] ∧ Kd.C (Kd.int .i64) w' A3 3 [0, 1, 2] ∧ Kd.C (Kd.slice 2 (Kd.int .i64)) w' A4 1 [[0, 1, 2]] := by
  have hu36 := Try.underlying36
  have hu34 := Try.underlying34
  have hu28 := Try.underlying28
  have b0 := @new_at w (.cells #[.slice none 0 0, .int .i64 0, .slice none 0 0, .slice none 0 0, .slice none 0 0] 36) _ rfl
  have hB := below_alloc (Below.refl w.heap.size w) (.cells #[.slice none 0 0, .int .i64 0, .slice none 0 0, .slice none 0 0, .slice none 0 0] 36)
  have hz : (w.alloc (.cells #[.slice none 0 0, .int .i64 0, .slice none 0 0, .slice none 0 0, .slice none 0 0] 36)).heap.size = w.heap.size + 1 := by simp
  go_enter Try.func23, Try.ntmps23
  go_wp2_with fail
  generalize (w.alloc (.cells #[.slice none 0 0, .int .i64 0, .slice none 0 0, .slice none 0 0, .slice none 0 0] 36)) = W0 at b0 hB hz ⊢
  refine (specNew_walk W0).mono ?_
  rintro e w1 ⟨A0, A2, A3, A4, c0, c2, c3, c4, rfl, l0, l3, l4, hb1, hC⟩
  have b0 := blk_below b0 hb1
  have z0 := blk_frozen b0 0
  have z1 := blk_frozen b0 1
  have z2 := blk_frozen b0 2
  have z3 := blk_frozen b0 3
  have z4 := blk_frozen b0 4
  have d0 := (blk_cell b0 0).trans rfl
  have d1 := (blk_cell b0 1).trans rfl
  have d2 := (blk_cell b0 2).trans rfl
  have d3 := (blk_cell b0 3).trans rfl
  have d4 := (blk_cell b0 4).trans rfl
  have B0 := Aside0.mk b0
  have HB := Aside0.mk (below_step hB hb1)
  have HC := Aside0.mk hC
  have HZ := Aside0.mk hz
  have L0 := Aside0.mk l0
  have L3 := Aside0.mk l3
  have L4 := Aside0.mk l4
  clear b0 hB hb1 hC hz l0 l3 l4
  go_wp2_with fail
  refine bodyPost_ret (results_cell_row rfl _ _ w.heap.size 36 #[.slice A0 4 c0, .int .i64 5, .slice A2 0 c2, .slice A3 3 c3, .slice A4 1 c4] (0, 0) _ rfl (blk_put (blk_put (blk_put (blk_put (blk_put B0.out 0 (.slice A0 4 c0) rfl) 1 (.int .i64 5) rfl) 2 (.slice A2 0 c2) rfl) 3 (.slice A3 3 c3) rfl) 4 (.slice A4 1 c4) rfl) Try.underlying36 rfl (by kernel_rfl)) rfl ?_
  refine ⟨A0, A2, A3, A4, c0, c2, c3, c4, rfl, L0.out, L3.out, L4.out, below_set (below_set (below_set (below_set (below_set HB.out (Nat.le_refl _)) (Nat.le_refl _)) (Nat.le_refl _)) (Nat.le_refl _)) (Nat.le_refl _), HC.out _ (fun k hk _ => ?_)⟩
  have hne : k ≠ w.heap.size := by have := HZ.out; omega
  rw [Below.heap_setCell _ _ _ _ hne, Below.heap_setCell _ _ _ _ hne, Below.heap_setCell _ _ _ _ hne, Below.heap_setCell _ _ _ _ hne, Below.heap_setCell _ _ _ _ hne]

end Go.Proofs.Ytnlhhbnoccobmaa.F
