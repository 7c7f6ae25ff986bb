/- What these functions answer, and that the Go text comes to it, for every world in which the arguments read as told: slices_Clone_rows_int64, slices_Clip_int64_int64, slices_Clip_rows_int64. -/
import Derived.Test.YtnlhhbnoccobmaaFgA
import Derived.WalkSpells
import Derived.Lib.LazyBuf
import Derived.Test.YtnlhhbnoccobmaaWNEv
namespace Go.Proofs.Ytnlhhbnoccobmaa.F
section
open Go.RowKit Go.Proofs.YtnlhhbnoccobmaaW.PrintWords Go.Proofs.YtnlhhbnoccobmaaW.PrintLast Go.Proofs.YtnlhhbnoccobmaaW.PrintMore
attribute [local go_sem] max2_int min2_int max_two min_two max_three min_three max_four min_four   -- for this text's walks alone
set_option linter.unusedVariables false
set_option linter.unusedSimpArgs false

/-! ### slices_Clone_rows_int64: function 188 (by hand) -/
theorem info_rowsc : (Try.prog.info? 22).map (fun i => (i.zero, i.size, i.bytes)) = some (some (.slice none 0 0), 1, 24) := by kernel_rfl
set_option maxHeartbeats 8000000 in
set_option maxRecDepth 100000 in
/-- A new row of the same rows: the rows themselves are only read. -/
theorem slices_Clone_rows_int64.calls (okv : Nat → Prop) (A0 : Option Addr) (c0 : Nat) (l0 : List (List Int)) (w : World) (hr0 : Kd.F (Kd.slice 2 (Kd.int .i64)) w okv A0 l0.length l0) (hc0 : l0.length ≤ c0) (hlen : l0.length ≤ 1000000) :
    Calls Try.prog 188 #[.slice A0 l0.length c0] w fun e w' => ∃ v0_ : Value, e = .returned (v0_) ∧ Kd.N (Kd.slice 2 (Kd.int .i64)) 22 w' w.heap.size (fun k => okv k ∨ w.heap.size ≤ k) v0_ l0 ∧ Below w.heap.size w w' := by
  have HR0 := Aside0.mk hr0
  have HLL := Aside0.mk hlen
  clear hr0 hlen
  have he := fun (W : World) (a : Option Addr) (n c : Nat) => Go.run_eql_slice_nil (P := Try.prog) W 23 22 a n c Try.underlying23
  cases A0 with
  | none =>
    have hz : l0 = [] := by
      have h := Kd.F_now HR0.out
      cases l0 with
      | nil => rfl
      | cons x r => exact absurd (h.2.2 (by simp)) (by rintro ⟨ad, e, _⟩; cases e)
    subst hz
    go_enter Try.func188, Try.ntmps188
    go_wp2
    go_ret
    exact ⟨_, rfl, Kd.N_nil _ _ _ _ _, Below.refl _ _⟩
  | some ad =>
    go_enter Try.func188, Try.ntmps188
    go_wp2_with (first
      | ((with_reducible refine gate_dst (N := 5) rfl ?_); refine Kd.N_lit (Kd.slice 2 (Kd.int .i64)) (w0 := w) w.heap.size 22 ?hg (N' := 5) ?hd (xs := ([] : List (List Int))) (inner := []) (ok := fun k => okv k ∨ w.heap.size ≤ k) (okp := fun _ => False) ?hr ?hp (fun _ hk => hk.elim) (.inr (Nat.le_refl _)) (Below.refl _ _) (Nat.le_refl _) (by simp) ?_; (case hd => rfl); (case hg => rfl); (case hr => first | (go_simp; done) | (go_simp; rfl)); (case hp => exact (Reps.none _ _)); intro v1 w2 ho3 hb hg_ hnew_; have HO0 := Aside0.mk ho3; have HB0 := Aside0.mk hb; have HN0 := Aside0.mk hnew_; clear ho3 hb hg_ hnew_)
      | (at_builtin; refine Kd.N_append_rows (Kd.slice 2 (Kd.int .i64)) (w0 := w) w.heap.size rfl (.tmp 5) (.tmp 6) 23 22 (.slice none 0 0) 24 rfl Try.underlying23 info_rowsc rfl (by decide) (by omega) v1 ([] : List (List Int)) l0 (some ad) l0.length c0 (fun k => okv k ∨ w.heap.size ≤ k) (fun k => okv k ∧ k < w.heap.size) rfl rfl HO0.out (Kd.F_below (Kd.F_bound HR0.out) HB0.out) (fun k hk => ⟨.inl hk.1, fun e => by obtain ⟨b, hb, hl⟩ := HN0.out; rw [hb] at e; have := Option.some.inj e; have := hk.2; omega⟩) (fun k hk => .inr (Nat.le_trans HB0.out.size hk)) HB0.out (HB0.out.size) (by have := HLL.out; simp only [List.length_nil]; omega) ?_; intro v9 w9 ho hb hg hat; have HO9 := Aside0.mk ho; have HB9 := Aside0.mk hb; clear ho hb hg hat))
    go_ret
    exact ⟨_, rfl, HO9.out, HB9.out⟩

end
section
open Go.RowKit Go.Proofs.YtnlhhbnoccobmaaW.PrintWords Go.Proofs.YtnlhhbnoccobmaaW.PrintLast Go.Proofs.YtnlhhbnoccobmaaW.PrintMore
attribute [local go_sem] max2_int min2_int max_two min_two max_three min_three max_four min_four   -- for this text's walks alone
set_option linter.unusedVariables false
set_option linter.unusedSimpArgs false

/-! ### slices_Clip_int64_int64: function 189 (by hand) -/
set_option maxHeartbeats 4000000 in
theorem slices_Clip_int64_int64.calls (A : Option Addr) (n c : Nat) (w : World) (hc : n ≤ c) :
    Calls Try.prog 189 #[.slice A n c] w fun e w' => e = .returned (.slice A n n) ∧ w' = w := by
  go_enter Try.func189, Try.ntmps189
  go_wp2
  go_ret
  exact ⟨rfl, rfl⟩

end
section
open Go.RowKit Go.Proofs.YtnlhhbnoccobmaaW.PrintWords Go.Proofs.YtnlhhbnoccobmaaW.PrintLast Go.Proofs.YtnlhhbnoccobmaaW.PrintMore
attribute [local go_sem] max2_int min2_int max_two min_two max_three min_three max_four min_four   -- for this text's walks alone
set_option linter.unusedVariables false
set_option linter.unusedSimpArgs false

/-! ### slices_Clip_rows_int64: function 190 (by hand) -/
set_option maxHeartbeats 4000000 in
theorem slices_Clip_rows_int64.calls (A : Option Addr) (n c : Nat) (w : World) (hc : n ≤ c) :
    Calls Try.prog 190 #[.slice A n c] w fun e w' => e = .returned (.slice A n n) ∧ w' = w := by
  go_enter Try.func190, Try.ntmps190
  go_wp2
  go_ret
  exact ⟨rfl, rfl⟩

end
end Go.Proofs.Ytnlhhbnoccobmaa.F
