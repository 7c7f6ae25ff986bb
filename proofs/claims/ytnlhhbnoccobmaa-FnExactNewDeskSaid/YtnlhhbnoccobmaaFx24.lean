/- What impl_NewDesk answers, and that the Go text comes to it: for every world in which the arguments read as told. -/
import Derived.Test.YtnlhhbnoccobmaaFgA
import Derived.Test.YtnlhhbnoccobmaaFx103
import Derived.Test.YtnlhhbnoccobmaaPureMem
import Derived.Maps.OwnSet
import Derived.StringKeys
import Derived.WalkSpells
import Derived.BigQuiet
namespace Go.Proofs.Ytnlhhbnoccobmaa.F
open Go.RowKit Go.Proofs.YtnlhhbnoccobmaaW.PrintWords Go.Proofs.YtnlhhbnoccobmaaW.PrintLast Go.Proofs.YtnlhhbnoccobmaaW.PrintMore
attribute [local go_sem] max2_int min2_int max_two min_two max_three min_three max_four min_four   -- for this text's walks alone
set_option linter.unusedVariables false
set_option linter.unusedSimpArgs false

/-! ### impl_NewDesk: function 24 (by hand) -/
open Go.Proofs.Ytnlhhbnoccobmaa.Mem Go.Maps Go.WideMaps
/-- The fork is found among the named webs. -/
theorem fork_found {w : World} {B n : Nat} {a c d e f : Value} (h : w.ownsMap (H := Unit) Try.prog 9 (readNm (forkNm B)) B n (dataNm (forkNm B) a (forkNm B) c d e f)) : (Instr.lookup 89 (.map (some B)) (.string ⟨#[102, 111, 114, 107]⟩) false).run Try.prog w = .ok (forkNm B) w := by
  obtain ⟨v, ps, h1, h2⟩ := h.lookup nmKey Try.underlying89 (nmZero w) (show readNm (forkNm B) (.agg #[.slice none 0 0, .slice none 0 0]) = some (codeOf (forkNm B) (.agg #[.slice none 0 0, .slice none 0 0]), []) from rfl) (keyOf_string_mk Try.underlying9 (s := ⟨#[102, 111, 114, 107]⟩) (by decide))
  rw [show (⟨#[102, 111, 114, 107]⟩ : ByteArray).data.toList = [102, 111, 114, 107] from rfl, dataNm_fork] at h2
  have h3 : codeOf (forkNm B) v = .lit (.int .i64 1) := by
    simp only [readNm, Option.some.injEq, Prod.mk.injEq] at h2
    exact h2.1
  have h4 : v = forkNm B := by
    unfold codeOf at h3
    by_cases g : v = forkNm B
    · exact g
    · rw [if_neg g] at h3; exact absurd h3 (by intro e; injection e with e; injection e with _ e; exact absurd e (by decide))
  rw [h4] at h1
  exact h1
theorem S_one {w : World} {B0 B1 base : Nat} {ok : Nat → Prop} (xs : List Int) (h0 : w.heap[B0]? = some (.cells (nums .i64 xs).toArray 2 (0, 0))) (h1 : w.heap[B1]? = some (.cells #[.slice (some ⟨B0, 0, none⟩) xs.length xs.length] 22 (0, 0))) (hm : xs.length ≤ maxLen) (hne : B0 ≠ B1) (g0 : base ≤ B0) (g1 : base ≤ B1) (k0 : ok B0) (k1 : ok B1) :
    Kd.S (Kd.slice 2 (Kd.int .i64)) 22 w base ok (.slice (some ⟨B1, 0, none⟩) 1 1) [xs] := by
  refine ⟨fun _ => 0, ⟨fun k hk => by simp [Value.ownBlock] at hk; rw [← hk]; exact k1, [.slice (some ⟨B0, 0, none⟩) xs.length xs.length], ⟨rfl, .inr ⟨B1, 1, _, rfl, g1, h1, Nat.le_refl _, by decide, rfl, rfl⟩⟩, Reps.one ?_ (Reps.none _ _)⟩⟩
  exact ⟨_, rfl, R_of_block_ok h0 rfl hm g0 _ ⟨⟨k0, fun e => hne (by simpa [Value.ownBlock] using e)⟩, rfl⟩⟩
set_option maxHeartbeats 4000000 in
set_option maxRecDepth 100000 in
theorem newDesk_walk (w : World) : Calls Try.prog 24 #[] w fun e w' => ∃ v0_ v3_ v4_ : Value, e = .returned (.agg #[v0_, .int .i64 5, .slice none 0 0, v3_, v4_]) ∧ Kd.R (Kd.int .i64) 2 w' w.heap.size (fun k => some k = v0_.ownBlock) v0_ [0, 1, 0, 1] ∧ Kd.R (Kd.int .i64) 2 w' w.heap.size (fun k => some k = v3_.ownBlock) v3_ [0, 1, 2] ∧ Kd.S (Kd.slice 2 (Kd.int .i64)) 22 w' w.heap.size (fun k => some k ≠ v0_.ownBlock ∧ some k ≠ v3_.ownBlock) v4_ [[0, 1, 2]] ∧ v0_.ownBlock ≠ v3_.ownBlock ∧ Below w.heap.size w w' := by
  have hu36 := Try.underlying36
  have hu34 := Try.underlying34
  have hu28 := Try.underlying28
  go_enter Try.func24, Try.ntmps24
  go_wp2_with fail
  have b0 : ((w.alloc (.cells #[.slice none 0 0, .int .i64 0, .slice none 0 0, .slice none 0 0, .slice none 0 0] 36)).alloc (.cells #[.int .i64 0, .int .i64 1, .int .i64 0, .int .i64 1] 2)).heap[w.heap.size]? = some (.cells #[.slice none 0 0, .int .i64 0, .slice none 0 0, .slice none 0 0, .slice none 0 0] 36 (0, 0)) := blk_alloc (new_at rfl) _
  have b1 : ((w.alloc (.cells #[.slice none 0 0, .int .i64 0, .slice none 0 0, .slice none 0 0, .slice none 0 0] 36)).alloc (.cells #[.int .i64 0, .int .i64 1, .int .i64 0, .int .i64 1] 2)).heap[w.heap.size + 1]? = some (.cells #[.int .i64 0, .int .i64 1, .int .i64 0, .int .i64 1] 2 (0, 0)) := new_at (by simp)
  have hB : Below w.heap.size w ((w.alloc (.cells #[.slice none 0 0, .int .i64 0, .slice none 0 0, .slice none 0 0, .slice none 0 0] 36)).alloc (.cells #[.int .i64 0, .int .i64 1, .int .i64 0, .int .i64 1] 2)) := below_alloc (below_alloc (Below.refl _ _) _) _
  have hsz : ((w.alloc (.cells #[.slice none 0 0, .int .i64 0, .slice none 0 0, .slice none 0 0, .slice none 0 0] 36)).alloc (.cells #[.int .i64 0, .int .i64 1, .int .i64 0, .int .i64 1] 2)).heap.size = w.heap.size + 2 := by simp
  generalize ((w.alloc (.cells #[.slice none 0 0, .int .i64 0, .slice none 0 0, .slice none 0 0, .slice none 0 0] 36)).alloc (.cells #[.int .i64 0, .int .i64 1, .int .i64 0, .int .i64 1] 2)) = W0 at b0 b1 hB hsz ⊢
  refine (named_walk W0).mono ?_
  rintro e w1 ⟨rfl, ⟨a, c, d, e, f, n, ho⟩, h1, h2, h3, hb1⟩
  have hlk := fork_found ho
  have b0 := blk_below b0 hb1
  have b1 := blk_below b1 hb1
  have hB := below_step hB hb1
  unfold forkNm at hlk
  obtain ⟨B, hBe⟩ : ∃ B, B = W0.heap.size := ⟨_, rfl⟩
  rw [← hBe] at hlk h1 h2 h3 hsz ⊢
  have z0 := blk_frozen b0 0
  have z1 := blk_frozen b0 1
  have z2 := blk_frozen b0 2
  have z3 := blk_frozen b0 3
  have z4 := blk_frozen b0 4
  have d0 := (blk_cell b0 0).trans rfl
  have d1 := (blk_cell b0 1).trans rfl
  have d2 := (blk_cell b0 2).trans rfl
  have d3 := (blk_cell b0 3).trans rfl
  have d4 := (blk_cell b0 4).trans rfl
  have B0 := Aside0.mk b0
  have B1 := Aside0.mk b1
  have HB := Aside0.mk hB
  have H1 := Aside0.mk h1
  have H2 := Aside0.mk h2
  have H3 := Aside0.mk h3
  have HS := Aside0.mk hsz
  clear b0 b1 hB h1 h2 h3 hb1 hBe hsz ho
  go_wp2_with fail
  have b := blk_put (blk_put (blk_put (blk_put (blk_put B0.out 0 (.slice (some ⟨w.heap.size + 1, 0, none⟩) 4 4) rfl) 1 (.int .i64 5) rfl) 2 (.slice none 0 0) rfl) 3 (.slice (some ⟨B + 2, 0, none⟩) 3 3) rfl) 4 (.slice (some ⟨B + 4, 0, none⟩) 1 1) rfl
  have far : ∀ k, k ≠ w.heap.size → (((((w1.setCell ⟨w.heap.size, 0, none⟩ (.slice (some ⟨w.heap.size + 1, 0, none⟩) 4 4)).setCell ⟨w.heap.size, 1, none⟩ (.int .i64 5)).setCell ⟨w.heap.size, 2, none⟩ (.slice none 0 0)).setCell ⟨w.heap.size, 3, none⟩ (.slice (some ⟨B + 2, 0, none⟩) 3 3)).setCell ⟨w.heap.size, 4, none⟩ (.slice (some ⟨B + 4, 0, none⟩) 1 1)).heap[k]? = w1.heap[k]? := fun k hk => by
    rw [Below.heap_setCell _ _ _ _ hk, Below.heap_setCell _ _ _ _ hk, Below.heap_setCell _ _ _ _ hk, Below.heap_setCell _ _ _ _ hk, Below.heap_setCell _ _ _ _ hk]
  have hs := HS.out
  have f1 := (far (w.heap.size + 1) (by omega)).trans B1.out
  have f2 := (far (B + 2) (by omega)).trans H1.out
  have f3 := (far (B + 3) (by omega)).trans H2.out
  have f4 := (far (B + 4) (by omega)).trans H3.out
  have hB5 := below_set (j := 4) (v := .slice (some ⟨B + 4, 0, none⟩) 1 1) (below_set (j := 3) (v := .slice (some ⟨B + 2, 0, none⟩) 3 3) (below_set (j := 2) (v := .slice none 0 0) (below_set (j := 1) (v := .int .i64 5) (below_set (j := 0) (v := .slice (some ⟨w.heap.size + 1, 0, none⟩) 4 4) HB.out (Nat.le_refl _)) (Nat.le_refl _)) (Nat.le_refl _)) (Nat.le_refl _)) (Nat.le_refl _)
  refine bodyPost_ret (results_cell_row rfl _ _ w.heap.size 36 #[.slice (some ⟨w.heap.size + 1, 0, none⟩) 4 4, .int .i64 5, .slice none 0 0, .slice (some ⟨B + 2, 0, none⟩) 3 3, .slice (some ⟨B + 4, 0, none⟩) 1 1] (0, 0) _ rfl b Try.underlying36 rfl (by kernel_rfl)) rfl ?_
  refine ⟨_, _, _, rfl, ?_, ?_, ?_, ?_, hB5⟩
  · exact R_of_block_ok (xs := [0, 1, 0, 1]) f1 rfl (by decide) (by omega) _ rfl
  · exact R_of_block_ok (xs := [0, 1, 2]) f2 rfl (by decide) (by omega) _ rfl
  · exact S_one [0, 1, 2] f3 f4 (by decide) (by omega) (by omega) (by omega) ⟨fun e => by have e : B + 3 = w.heap.size + 1 := Option.some.inj e; omega, fun e => by have e : B + 3 = B + 2 := Option.some.inj e; omega⟩ ⟨fun e => by have e : B + 4 = w.heap.size + 1 := Option.some.inj e; omega, fun e => by have e : B + 4 = B + 2 := Option.some.inj e; omega⟩
  · intro e; have e : w.heap.size + 1 = B + 2 := Option.some.inj e; omega

end Go.Proofs.Ytnlhhbnoccobmaa.F
