/- What slices_Grow_int64_int64 answers, and that the Go text comes to it: for every world in which the arguments read as told. -/
import Derived.Test.YtfijnlbkflmkbaaFx0
namespace Go.Proofs.Ytfijnlbkflmkbaa.F
open Go.RowKit Go.Proofs.YtfijnlbkflmkbaaW.PrintWords Go.Proofs.YtfijnlbkflmkbaaW.PrintLast Go.Proofs.YtfijnlbkflmkbaaW.PrintMore
attribute [local go_sem] max2_int min2_int max_two min_two max_three min_three max_four min_four   -- for this text's walks alone
set_option linter.unusedVariables false
set_option linter.unusedSimpArgs false

/-! ### slices_Grow_int64_int64: function 151 (by hand) -/
theorem info_i64g : (Try.prog.info? 2).map (fun i => (i.zero, i.size, i.bytes)) = some (some (.int .i64 0), 1, 8) := by kernel_rfl
set_option maxHeartbeats 8000000 in
set_option maxRecDepth 100000 in
/-- Grow of a nil slice. -/
theorem slices_Grow_nil.calls (n : Int) (w : World) (h0 : 0 ≤ n) (hn : n * 8 ≤ 140737488355328) :
    Calls Try.prog 151 #[.slice none 0 0, .int .i64 n] w fun e w' => ∃ v0_ : Value, e = .returned (v0_) ∧ Kd.R (Kd.int .i64) 2 w' w.heap.size (fun _ => True) v0_ [] ∧ Below w.heap.size w w' := by
  have HN := Aside0.mk hn
  have H0 := Aside0.mk h0
  clear hn
  have b0 : decide (n < 0) = false := decide_eq_false (by omega)
  by_cases hp : 0 < n
  · have b1 : decide (0 < n) = true := decide_eq_true hp
    have W1 := Aside0.mk (show wrap64 n = n from by have := HN.out; unfold wrap64; omega)
    have b2 : decide (0 < wrap64 n) = true := by rw [W1.out]; exact b1
    clear hp h0
    go_enter Try.func151, Try.ntmps151
    go_wp2_with (first
      | (at_builtin; refine Kd.R_append_zeros (Kd.int .i64) (w0 := w) w.heap.size rfl (.tmp 20) (.tmp 21) 22 3 2 (.int .i64 0) 8 rfl Try.underlying22 Try.underlying3 info_i64g rfl (by decide) (by omega) (.slice none 0 0) ([] : List Int) 0 (wrap64 n) (fun _ => True) rfl rfl rfl (fun _ _ => trivial) (Kd.R_nil _ _ _ _ _) (by rw [W1.out]; exact H0.out) (Below.refl _ _) (Nat.le_refl _) (by rw [W1.out]; have := HN.out; have := H0.out; simp only [List.length_nil]; omega) ?_; intro v9 w9 ho hb hg hat; have HO9 := Aside0.mk ho; have HB9 := Aside0.mk hb; clear ho hb hg hat; obtain ⟨Ao, co, eo⟩ := Kd.R_slice HO9.out; subst eo))
    go_ret
    exact ⟨_, rfl, Kd.R_take HO9.out (Nat.zero_le _), HB9.out⟩
  · have b1 : decide (0 < n) = false := decide_eq_false hp
    obtain rfl : n = 0 := by omega
    clear hp h0 H0 HN
    go_enter Try.func151, Try.ntmps151
    go_wp2
    go_ret
    exact ⟨_, rfl, Kd.R_nil _ _ _ _ _, Below.refl _ _⟩

end Go.Proofs.Ytfijnlbkflmkbaa.F
