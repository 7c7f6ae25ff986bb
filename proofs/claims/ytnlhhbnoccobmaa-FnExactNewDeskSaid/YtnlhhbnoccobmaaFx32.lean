/- What laws_markWeb answers, and that the Go text comes to it: for every world in which the arguments read as told. -/
import Derived.Test.YtnlhhbnoccobmaaFgA
import Derived.Test.YtnlhhbnoccobmaaFx112
import Derived.Test.YtnlhhbnoccobmaaPureMem
import Derived.WalkSpells
import Derived.BigQuiet
namespace Go.Proofs.Ytnlhhbnoccobmaa.F
open Go.RowKit Go.Proofs.YtnlhhbnoccobmaaW.PrintWords Go.Proofs.YtnlhhbnoccobmaaW.PrintLast Go.Proofs.YtnlhhbnoccobmaaW.PrintMore
attribute [local go_sem] max2_int min2_int max_two min_two max_three min_three max_four min_four   -- for this text's walks alone
set_option linter.unusedVariables false
set_option linter.unusedSimpArgs false

/-! ### laws_markWeb: function 32 (by hand) -/
open Go.Proofs.Ytnlhhbnoccobmaa.Mem
set_option maxHeartbeats 4000000 in
set_option maxRecDepth 100000 in
/-- Both rows are marked, nothing else is. -/
theorem markWeb_walk (k1 k2 : Nat) (P0 P1 : Nat → Prop) (A0 : Option Addr) (c0 : Nat) (l0 : List Int) (A1 : Option Addr) (c1 : Nat) (v : List (List Int)) (a T0 T : Int) (m0 : List Int) (M : List (List Int)) (w0 w : World) (hB : Below w0.heap.size w0 w) (hlen : v.length ≤ 1000000000) (hR : Kd.R (Kd.int .i64) 2 w w0.heap.size P0 (.slice A0 l0.length c0) l0) (hS : Kd.S (Kd.slice 2 (Kd.int .i64)) 22 w w0.heap.size P1 (.slice A1 v.length c1) v) (hd : ∀ k, P1 k → ¬ P0 k) (h1 : laws_markInt64S.f k1 l0 a = some (T0, m0)) (h2 : laws_markInt64SS.f k2 v T0 = some (T, M)) :
    Calls Try.prog 32 #[.agg #[.slice A0 l0.length c0, .slice A1 v.length c1], .int .i64 a] w fun e w' => e = .returned (.int .i64 T) ∧ Kd.R (Kd.int .i64) 2 w' w0.heap.size (fun k => P0 k ∨ w.heap.size ≤ k) (.slice A0 l0.length c0) m0 ∧ Kd.S (Kd.slice 2 (Kd.int .i64)) 22 w' w0.heap.size P1 (.slice A1 v.length c1) M ∧ Below w0.heap.size w0 w' ∧ Kept w w' (fun k => P0 k ∨ P1 k) := by
  have hu := Try.underlying28
  have HB := Aside0.mk (below_alloc hB (.cells #[.slice A0 l0.length c0, .slice A1 v.length c1] 28))
  have HR := Aside0.mk (Kd.R_alloc (Kd.R_mono (ok' := fun k => P0 k ∧ k < w.heap.size) (Kd.R_bound hR) (fun k hk => ⟨hk.1, hk.2.2.1⟩)) (.cells #[.slice A0 l0.length c0, .slice A1 v.length c1] 28))
  have HS := Aside0.mk (Kd.S_alloc (Kd.S_mono (ok' := fun k => P1 k ∧ k < w.heap.size) (Kd.S_bound hS) (fun k hk => ⟨hk.1, hk.2.2.1⟩)) (.cells #[.slice A0 l0.length c0, .slice A1 v.length c1] 28))
  have hb := @new_at w (.cells #[.slice A0 l0.length c0, .slice A1 v.length c1] 28) _ rfl
  have HBK := Aside0.mk hb
  have HKA := Aside0.mk ((Kept.refl w (fun k => P0 k ∨ P1 k)).alloc (.cells #[.slice A0 l0.length c0, .slice A1 v.length c1] 28))
  have HSZ := Aside0.mk (show (w.alloc (.cells #[.slice A0 l0.length c0, .slice A1 v.length c1] 28)).heap.size = w.heap.size + 1 by simp)
  have q0 := (blk_cell hb 0).trans rfl
  have H1 := Aside0.mk h1
  have H2 := Aside0.mk h2
  have HD := Aside0.mk hd
  clear hB hR hS hb h1 h2 hd
  go_enter Try.func32, Try.ntmps32
  go_wp2_with fail
  generalize (w.alloc (.cells #[.slice A0 l0.length c0, .slice A1 v.length c1] 28)) = W1 at HB HR HS HBK HKA HSZ q0 ⊢
  refine (laws_markInt64S.calls k1 (fun k => P0 k ∧ k < w.heap.size) _ l0 a T0 m0 w0 W1 HB.out HR.out H1.out).mono ?_
  rintro e w2 ⟨rfl, hr2, hb2, hk2⟩
  have hbk2 := blk_kept HBK.out hk2 (fun h => Nat.lt_irrefl _ h.2)
  have q1 := (blk_cell hbk2 1).trans rfl
  have HR2 := Aside0.mk hr2
  have HB2 := Aside0.mk hb2
  have HK2 := Aside0.mk hk2
  have HS2 := Aside0.mk (Kd.S_kept HS.out hk2 (fun k hk h => HD.out k hk.1 h.1))
  clear hr2 hb2 hk2 hbk2 q0
  go_wp2_with fail
  refine (laws_markInt64SS.calls k2 (fun k => P1 k ∧ k < w.heap.size) _ v T0 T M w0 w2 HB2.out hlen HS2.out H2.out).mono ?_
  rintro e w3 ⟨rfl, hs3, hb3, hk3⟩
  have HR3 := Aside0.mk (Kd.R_kept HR2.out hk3 (fun k hk h => hk.elim (fun g => HD.out k h.1 g.1) (fun g => by have := HSZ.out; have := h.2; omega)))
  have HS3 := Aside0.mk hs3
  have HB3 := Aside0.mk hb3
  have HK3 := Aside0.mk hk3
  clear hs3 hb3 hk3 q1
  go_wp2_with fail
  go_ret
  refine ⟨rfl, Kd.R_mono HR3.out (fun k hk => hk.elim (fun g => .inl g.1) (fun g => .inr (by have := HSZ.out; omega))), Kd.S_mono HS3.out (fun k hk => hk.1), HB3.out, ?_⟩
  exact (HKA.out.then_ HK2.out (fun k hk => .inl (.inl hk.1))).then_ HK3.out (fun k hk => .inl (.inr hk.1))

end Go.Proofs.Ytnlhhbnoccobmaa.F
