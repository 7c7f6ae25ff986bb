/- What laws_markDesk answers, and that the Go text comes to it: for every world in which the arguments read as told. -/
import Derived.Test.YtnlhhbnoccobmaaFgA
import Derived.Test.YtnlhhbnoccobmaaFx112
import Derived.Test.YtnlhhbnoccobmaaFx32
import Derived.Test.YtnlhhbnoccobmaaPureMem
import Derived.WalkSpells
import Derived.BigQuiet
namespace Go.Proofs.Ytnlhhbnoccobmaa.F
open Go.RowKit Go.Proofs.YtnlhhbnoccobmaaW.PrintWords Go.Proofs.YtnlhhbnoccobmaaW.PrintLast Go.Proofs.YtnlhhbnoccobmaaW.PrintMore
attribute [local go_sem] max2_int min2_int max_two min_two max_three min_three max_four min_four   -- for this text's walks alone
set_option linter.unusedVariables false
set_option linter.unusedSimpArgs false

/-! ### laws_markDesk: function 26 (by hand) -/
open Go.Proofs.Ytnlhhbnoccobmaa.Mem
set_option maxHeartbeats 4000000 in
set_option maxRecDepth 100000 in
theorem markTermS_nil (a : Int) (w : World) : Calls Try.prog 169 #[.slice none 0 0, .int .i64 a] w fun e w' => e = .returned (.int .i64 a) ∧ w' = w := by
  go_enter Try.func169, Try.ntmps169
  go_wp2
  go_loopw [1, 5] (fun s1 s5 wr => s1 = .int .i64 a ∧ s5 = .int .i64 0 ∧ wr = w) (fun _ _ _ => 0)
  case atStart => exact ⟨rfl, rfl, rfl⟩
  case round =>
    obtain ⟨rfl, rfl, rfl⟩ := hrel
    go_wp2
    go_ret
    exact ⟨rfl, rfl⟩
set_option maxHeartbeats 4000000 in
set_option maxRecDepth 100000 in
theorem markSum_nil (p a : Int) (w : World) : Calls Try.prog 105 #[.agg #[.int .i64 p, .slice none 0 0], .int .i64 a] w fun e w' => e = .returned (.int .i64 a) ∧ Below w.heap.size w w' := by
  have hu := Try.underlying34
  have hb := @new_at w (.cells #[.int .i64 p, .slice none 0 0] 34) _ rfl
  have q1 := (blk_cell hb 1).trans rfl
  go_enter Try.func105, Try.ntmps105
  go_wp2_with fail
  refine (markTermS_nil a _).mono ?_
  rintro e w2 ⟨rfl, rfl⟩
  go_wp2_with fail
  go_ret
  exact ⟨rfl, below_alloc (Below.refl _ _) _⟩
set_option maxHeartbeats 4000000 in
set_option maxRecDepth 100000 in
/-- The rows of a desk without terms are marked, nothing else is. -/
theorem markDesk_walk (k1 k2 k3 : Nat) (P0 P3 P4 : Nat → Prop) (A0 : Option Addr) (c0 : Nat) (l0 : List Int) (p : Int) (A3 : Option Addr) (c3 : Nat) (l3 : List Int) (A4 : Option Addr) (c4 : Nat) (v : List (List Int)) (a T0 T1 T : Int) (m0 m3 : List Int) (M : List (List Int)) (w0 w : World) (hB : Below w0.heap.size w0 w) (hlen : v.length ≤ 1000000000)
    (hR0 : Kd.R (Kd.int .i64) 2 w w0.heap.size P0 (.slice A0 l0.length c0) l0) (hR3 : Kd.R (Kd.int .i64) 2 w w0.heap.size P3 (.slice A3 l3.length c3) l3) (hS : Kd.S (Kd.slice 2 (Kd.int .i64)) 22 w w0.heap.size P4 (.slice A4 v.length c4) v)
    (d03 : ∀ k, P3 k → ¬ P0 k) (d04 : ∀ k, P4 k → ¬ P0 k) (d34 : ∀ k, P4 k → ¬ P3 k) (h1 : laws_markInt64S.f k1 l0 a = some (T0, m0)) (h2 : laws_markInt64S.f k2 l3 T0 = some (T1, m3)) (h3 : laws_markInt64SS.f k3 v T1 = some (T, M)) :
    Calls Try.prog 26 #[.agg #[.slice A0 l0.length c0, .int .i64 p, .slice none 0 0, .slice A3 l3.length c3, .slice A4 v.length c4], .int .i64 a] w fun e w' => e = .returned (.int .i64 T) ∧ Kd.R (Kd.int .i64) 2 w' w0.heap.size (fun k => P0 k ∨ w.heap.size ≤ k) (.slice A0 l0.length c0) m0 ∧ Kd.R (Kd.int .i64) 2 w' w0.heap.size (fun k => P3 k ∨ w.heap.size ≤ k) (.slice A3 l3.length c3) m3 ∧ Kd.S (Kd.slice 2 (Kd.int .i64)) 22 w' w0.heap.size P4 (.slice A4 v.length c4) M ∧ Below w0.heap.size w0 w' ∧ Kept w w' (fun k => P0 k ∨ P3 k ∨ P4 k) := by
  have hu := Try.underlying36
  have hu1 := Try.underlying34
  have hu2 := Try.underlying28
  obtain ⟨D, hD⟩ : ∃ D, D = Obj.cells #[.slice A0 l0.length c0, .int .i64 p, .slice none 0 0, .slice A3 l3.length c3, .slice A4 v.length c4] 36 (0, 0) := ⟨_, rfl⟩
  have HB := Aside0.mk (below_alloc hB D)
  have HR0 := Aside0.mk (Kd.R_alloc (Kd.R_mono (ok' := fun k => P0 k ∧ k < w.heap.size) (Kd.R_bound hR0) (fun k hk => ⟨hk.1, hk.2.2.1⟩)) D)
  have HR3 := Aside0.mk (Kd.R_alloc (Kd.R_mono (ok' := fun k => P3 k ∧ k < w.heap.size) (Kd.R_bound hR3) (fun k hk => ⟨hk.1, hk.2.2.1⟩)) D)
  have HS := Aside0.mk (Kd.S_alloc (Kd.S_mono (ok' := fun k => P4 k ∧ k < w.heap.size) (Kd.S_bound hS) (fun k hk => ⟨hk.1, hk.2.2.1⟩)) D)
  have hb := @new_at w D _ rfl
  have HKA := Aside0.mk ((Kept.refl w (fun k => P0 k ∨ P3 k ∨ P4 k)).alloc D)
  have HSZ := Aside0.mk (show (w.alloc D).heap.size = w.heap.size + 1 by simp)
  rw [hD] at hb
  have HBK := Aside0.mk hb
  have q0 := (blk_cell hb 0).trans rfl
  rw [hD] at HB HR0 HR3 HS HKA HSZ
  have H1 := Aside0.mk h1
  have H2 := Aside0.mk h2
  have H3 := Aside0.mk h3
  have D03 := Aside0.mk d03
  have D04 := Aside0.mk d04
  have D34 := Aside0.mk d34
  have HLN := Aside0.mk hlen
  clear hB hR0 hR3 hS hb h1 h2 h3 d03 d04 d34 hD hlen
  go_enter Try.func26, Try.ntmps26
  go_wp2_with fail
  generalize (w.alloc (.cells #[.slice A0 l0.length c0, .int .i64 p, .slice none 0 0, .slice A3 l3.length c3, .slice A4 v.length c4] 36)) = W1 at HB HR0 HR3 HS HBK HKA HSZ q0 ⊢
  refine (laws_markInt64S.calls k1 (fun k => P0 k ∧ k < w.heap.size) _ l0 a T0 m0 w0 W1 HB.out HR0.out H1.out).mono ?_
  rintro e w2 ⟨rfl, hr2, hb2, hk2⟩
  have hbk2 := blk_kept HBK.out hk2 (fun h => Nat.lt_irrefl _ h.2)
  have q1 := (blk_cell hbk2 1).trans rfl
  have q2 := (blk_cell hbk2 2).trans rfl
  have HBK2 := Aside0.mk hbk2
  have HR02 := Aside0.mk hr2
  have HB2 := Aside0.mk hb2
  have HK2 := Aside0.mk hk2
  have HR32 := Aside0.mk (Kd.R_kept HR3.out hk2 (fun k hk h => D03.out k hk.1 h.1))
  have HS2 := Aside0.mk (Kd.S_kept HS.out hk2 (fun k hk h => D04.out k hk.1 h.1))
  clear hr2 hb2 hk2 hbk2 q0
  go_wp2_with fail
  refine (markSum_nil p T0 w2).mono ?_
  rintro e w3 ⟨rfl, hb3⟩
  have hbk3 := blk_below HBK2.out hb3
  have q3 := (blk_cell hbk3 3).trans rfl
  have q4 := (blk_cell hbk3 4).trans rfl
  have HB3 := Aside0.mk (below_step HB2.out hb3)
  have HK3 := Aside0.mk (show Kept w2 w3 (fun _ => False) from ⟨hb3.size, fun k hk _ => hb3.block k hk⟩)
  have HR03 := Aside0.mk (Kd.R_below HR02.out hb3)
  have HR33 := Aside0.mk (Kd.R_below HR32.out hb3)
  have HS3 := Aside0.mk (Kd.S_below HS2.out hb3)
  clear hb3 hbk3 q1 q2
  go_wp2_with fail
  refine (markWeb_walk k2 k3 (fun k => P3 k ∧ k < w.heap.size) (fun k => P4 k ∧ k < w.heap.size) A3 c3 l3 A4 c4 v T0 T1 T m3 M w0 w3 HB3.out HLN.out HR33.out HS3.out (fun k h4 h3 => D34.out k h4.1 h3.1) H2.out H3.out).mono ?_
  rintro e w4 ⟨rfl, hr4, hs4, hb4, hk4⟩
  have HR34 := Aside0.mk hr4
  have HS4 := Aside0.mk hs4
  have HB4 := Aside0.mk hb4
  have HK4 := Aside0.mk hk4
  have HR04 := Aside0.mk (Kd.R_kept HR03.out hk4 (fun k hk h => hk.elim (fun q => h.elim (fun g => D03.out k g.1 q.1) (fun g => D04.out k g.1 q.1)) (fun q => by have := HSZ.out; rcases h with h | h <;> (have := h.2; omega))))
  clear hr4 hs4 hb4 hk4 q3 q4
  go_wp2_with fail
  go_ret
  have hz : w.heap.size ≤ w3.heap.size := by have := HSZ.out; have := HK2.out.1; have := HK3.out.1; omega
  refine ⟨rfl, Kd.R_mono HR04.out (fun k hk => hk.elim (fun g => .inl g.1) (fun g => .inr (by have := HSZ.out; omega))), Kd.R_mono HR34.out (fun k hk => hk.elim (fun g => .inl g.1) (fun g => .inr (by omega))), Kd.S_mono HS4.out (fun k hk => hk.1), HB4.out, ?_⟩
  exact ((HKA.out.then_ HK2.out (fun k hk => .inl (.inl hk.1))).then_ HK3.out (fun k hk => hk.elim)).then_ HK4.out (fun k hk => .inl (hk.elim (fun g => .inr (.inl g.1)) (fun g => .inr (.inr g.1))))

end Go.Proofs.Ytnlhhbnoccobmaa.F
