/- What impl_named answers, and that the Go text comes to it: for every world in which the arguments read as told. -/
import Derived.Test.YtnlhhbnoccobmaaFgA
import Derived.Test.YtnlhhbnoccobmaaPureMem
import Derived.Maps.OwnSet
import Derived.StringKeys
import Derived.WalkSpells
import Derived.BigQuiet
namespace Go.Proofs.Ytnlhhbnoccobmaa.F
open Go.RowKit Go.Proofs.YtnlhhbnoccobmaaW.PrintWords Go.Proofs.YtnlhhbnoccobmaaW.PrintLast Go.Proofs.YtnlhhbnoccobmaaW.PrintMore
attribute [local go_sem] max2_int min2_int max_two min_two max_three min_three max_four min_four   -- for this text's walks alone
set_option linter.unusedVariables false
set_option linter.unusedSimpArgs false

/-! ### impl_named: function 103 (by hand) -/
open Go.Proofs.Ytnlhhbnoccobmaa.Mem Go.Maps Go.WideMaps
theorem nmKey : Keyed Try.prog 9 := string_keyed Try.underlying9
theorem nmZero (w : World) : (zeroValue 28).run Try.prog w = .ok (.agg #[.slice none 0 0, .slice none 0 0]) w := by kernel_rfl
open Classical in
/-- What a map's element counts as: the one that is looked for, or another. -/
noncomputable def codeOf (V v : Value) : DataW Unit := if v = V then .lit (.int .i64 1) else .lit (.int .i64 0)
noncomputable def readNm (V : Value) (v : Value) : Option (DataW Unit × List MemPlace) := some (codeOf V v, [])
theorem nm_ne {a b : List UInt8} (h : a ≠ b) : Lit.string a ≠ Lit.string b := fun e => h (by injection e)
theorem nm_put (V : Value) {w : World} {b n : Nat} {D : DataW Unit} (h : w.ownsMap Try.prog 9 (readNm V) b n D) (hn : n < 100) (s : ByteArray) (hs : s.size ≤ maxLen) (val : Value) :
  ∃ w', (Instr.mapUpdate 89 (.map (some b)) (.string s) val).run Try.prog w = .ok () w' ∧ w'.ownsMap Try.prog 9 (readNm V) b (n + 1) (D.put (.string s.data.toList) (codeOf V val)) ∧ w.grownBy w' (some b) ∧ w'.heap.size = w.heap.size := by
 obtain ⟨w', h1, h2, h3⟩ := h.store nmKey Try.underlying89 (by unfold maxLen; omega) (keyOf_string_mk Try.underlying9 hs) (show readNm V val = some (codeOf V val, []) from rfl)
 refine ⟨w', h1, h2, h3.grown, ?_⟩
 obtain ⟨es, clock, es', clock', _, rfl⟩ := h3
 show (w.heap.setIfInBounds b _).size = _
 rw [Array.size_setIfInBounds]
/-- What stands at the name 'fork' among the named webs. -/
def forkNm (B : Nat) : Value := .agg #[.slice (some ⟨B + 2, 0, none⟩) 3 3, .slice (some ⟨B + 4, 0, none⟩) 1 1]
noncomputable def dataNm (V a b c d e f : Value) : DataW Unit := ((((((DataW.map []).put (.string [99, 104, 111, 114, 100]) (codeOf V a)).put (.string [102, 111, 114, 107]) (codeOf V b)).put (.string [114, 105, 110, 103]) (codeOf V c)).put (.string [98, 114, 105, 100, 103, 101]) (codeOf V d)).put (.string [119, 104, 101, 101, 108]) (codeOf V e)).put (.string [99, 111, 109, 98]) (codeOf V f)
theorem dataNm_fork (V a c d e f : Value) (z : DataW Unit) : (dataNm V a V c d e f).atKey (.string [102, 111, 114, 107]) z = .lit (.int .i64 1) := by
 unfold dataNm
 rw [atKey_put_other (nm_ne (by decide)), atKey_put_other (nm_ne (by decide)), atKey_put_other (nm_ne (by decide)), atKey_put_other (nm_ne (by decide)), atKey_put_same (IsMap.put isMap_empty _ _) (show WideAt.IsKeyLit (Lit.string [102, 111, 114, 107]) from trivial)]
 unfold codeOf; rw [if_pos rfl]
set_option maxHeartbeats 4000000 in
set_option maxRecDepth 100000 in
theorem named_walk (w : World) : Calls Try.prog 103 #[] w fun e w' => e = .returned (.map (some w.heap.size)) ∧ (∃ a c d e f n, w'.ownsMap Try.prog 9 (readNm (forkNm w.heap.size)) w.heap.size n (dataNm (forkNm w.heap.size) a (forkNm w.heap.size) c d e f)) ∧
  w'.heap[w.heap.size + 2]? = some (.cells #[.int .i64 0, .int .i64 1, .int .i64 2] 2 (0, 0)) ∧ w'.heap[w.heap.size + 3]? = some (.cells #[.int .i64 0, .int .i64 1, .int .i64 2] 2 (0, 0)) ∧ w'.heap[w.heap.size + 4]? = some (.cells #[.slice (some ⟨w.heap.size + 3, 0, none⟩) 3 3] 22 (0, 0)) ∧ Below w.heap.size w w' := by
 have hmm := @run_makeMap Try.prog
 obtain ⟨B, hBe⟩ : ∃ B, B = w.heap.size := ⟨_, rfl⟩
 have hB0 := Below.refl w.heap.size w
 have ho0 := World.ownsMap_made (H := Unit) w Try.prog 9 (readNm (forkNm w.heap.size))
 have hb0 := below_alloc hB0 (.map #[] 0)
 have hs0 : (w.alloc (.map #[] 0)).heap.size = w.heap.size + 1 := by simp
 obtain ⟨w1, hr1, ho1, hg1, hz1⟩ := nm_put (forkNm w.heap.size) (ho0.alloc (.cells #[.int .i64 0, .int .i64 0] 2)) (by decide) ⟨#[99, 104, 111, 114, 100]⟩ (by decide) (.agg #[.slice (some ⟨w.heap.size + 1, 0, none⟩) 2 2, .slice none 0 0])
 have hb1 := (below_alloc hb0 (.cells #[.int .i64 0, .int .i64 0] 2)).grown hg1 (by have := below_size (below_alloc hb0 (.cells #[.int .i64 0, .int .i64 0] 2)); exact this) (fun k hk => by injection hk with hk; omega)
 have hs1 : w1.heap.size = w.heap.size + 2 := by rw [hz1]; simp [hs0]
 obtain ⟨w2, hr2, ho2, hg2, hz2⟩ := nm_put (forkNm w.heap.size) (((ho1.alloc (.cells #[.int .i64 0, .int .i64 1, .int .i64 2] 2)).alloc (.cells #[.int .i64 0, .int .i64 1, .int .i64 2] 2)).alloc (.cells #[.slice (some ⟨w1.heap.size + 1, 0, none⟩) 3 3] 22)) (by decide) ⟨#[102, 111, 114, 107]⟩ (by decide) (.agg #[.slice (some ⟨w1.heap.size, 0, none⟩) 3 3, .slice (some ⟨w1.heap.size + 2, 0, none⟩) 1 1])
 have hb2 := (below_alloc (below_alloc (below_alloc hb1 (.cells #[.int .i64 0, .int .i64 1, .int .i64 2] 2)) (.cells #[.int .i64 0, .int .i64 1, .int .i64 2] 2)) (.cells #[.slice (some ⟨w1.heap.size + 1, 0, none⟩) 3 3] 22)).grown hg2 (by have := below_size (below_alloc (below_alloc (below_alloc hb1 (.cells #[.int .i64 0, .int .i64 1, .int .i64 2] 2)) (.cells #[.int .i64 0, .int .i64 1, .int .i64 2] 2)) (.cells #[.slice (some ⟨w1.heap.size + 1, 0, none⟩) 3 3] 22)); exact this) (fun k hk => by injection hk with hk; omega)
 have hs2 : w2.heap.size = w.heap.size + 5 := by rw [hz2]; simp [hs1]
 obtain ⟨w3, hr3, ho3, hg3, hz3⟩ := nm_put (forkNm w.heap.size) ((((ho2.alloc (.cells #[.int .i64 0, .int .i64 1] 2)).alloc (.cells #[.int .i64 0, .int .i64 2, .int .i64 3] 2)).alloc (.cells #[.int .i64 1, .int .i64 3, .int .i64 2] 2)).alloc (.cells #[.slice (some ⟨w2.heap.size + 1, 0, none⟩) 3 3, .slice (some ⟨w2.heap.size + 2, 0, none⟩) 3 3] 22)) (by decide) ⟨#[114, 105, 110, 103]⟩ (by decide) (.agg #[.slice (some ⟨w2.heap.size, 0, none⟩) 2 2, .slice (some ⟨w2.heap.size + 3, 0, none⟩) 2 2])
 have hb3 := (below_alloc (below_alloc (below_alloc (below_alloc hb2 (.cells #[.int .i64 0, .int .i64 1] 2)) (.cells #[.int .i64 0, .int .i64 2, .int .i64 3] 2)) (.cells #[.int .i64 1, .int .i64 3, .int .i64 2] 2)) (.cells #[.slice (some ⟨w2.heap.size + 1, 0, none⟩) 3 3, .slice (some ⟨w2.heap.size + 2, 0, none⟩) 3 3] 22)).grown hg3 (by have := below_size (below_alloc (below_alloc (below_alloc (below_alloc hb2 (.cells #[.int .i64 0, .int .i64 1] 2)) (.cells #[.int .i64 0, .int .i64 2, .int .i64 3] 2)) (.cells #[.int .i64 1, .int .i64 3, .int .i64 2] 2)) (.cells #[.slice (some ⟨w2.heap.size + 1, 0, none⟩) 3 3, .slice (some ⟨w2.heap.size + 2, 0, none⟩) 3 3] 22)); exact this) (fun k hk => by injection hk with hk; omega)
 have hs3 : w3.heap.size = w.heap.size + 9 := by rw [hz3]; simp [hs2]
 obtain ⟨w4, hr4, ho4, hg4, hz4⟩ := nm_put (forkNm w.heap.size) ((((ho3.alloc (.cells #[.int .i64 0, .int .i64 1, .int .i64 2, .int .i64 3] 2)).alloc (.cells #[.int .i64 0, .int .i64 1, .int .i64 4] 2)).alloc (.cells #[.int .i64 4, .int .i64 2, .int .i64 3] 2)).alloc (.cells #[.slice (some ⟨w3.heap.size + 1, 0, none⟩) 3 3, .slice (some ⟨w3.heap.size + 2, 0, none⟩) 3 3] 22)) (by decide) ⟨#[98, 114, 105, 100, 103, 101]⟩ (by decide) (.agg #[.slice (some ⟨w3.heap.size, 0, none⟩) 4 4, .slice (some ⟨w3.heap.size + 3, 0, none⟩) 2 2])
 have hb4 := (below_alloc (below_alloc (below_alloc (below_alloc hb3 (.cells #[.int .i64 0, .int .i64 1, .int .i64 2, .int .i64 3] 2)) (.cells #[.int .i64 0, .int .i64 1, .int .i64 4] 2)) (.cells #[.int .i64 4, .int .i64 2, .int .i64 3] 2)) (.cells #[.slice (some ⟨w3.heap.size + 1, 0, none⟩) 3 3, .slice (some ⟨w3.heap.size + 2, 0, none⟩) 3 3] 22)).grown hg4 (by have := below_size (below_alloc (below_alloc (below_alloc (below_alloc hb3 (.cells #[.int .i64 0, .int .i64 1, .int .i64 2, .int .i64 3] 2)) (.cells #[.int .i64 0, .int .i64 1, .int .i64 4] 2)) (.cells #[.int .i64 4, .int .i64 2, .int .i64 3] 2)) (.cells #[.slice (some ⟨w3.heap.size + 1, 0, none⟩) 3 3, .slice (some ⟨w3.heap.size + 2, 0, none⟩) 3 3] 22)); exact this) (fun k hk => by injection hk with hk; omega)
 have hs4 : w4.heap.size = w.heap.size + 13 := by rw [hz4]; simp [hs3]
 obtain ⟨w5, hr5, ho5, hg5, hz5⟩ := nm_put (forkNm w.heap.size) (((((ho4.alloc (.cells #[.int .i64 0, .int .i64 1, .int .i64 2] 2)).alloc (.cells #[.int .i64 0, .int .i64 3, .int .i64 5] 2)).alloc (.cells #[.int .i64 1, .int .i64 4, .int .i64 3] 2)).alloc (.cells #[.int .i64 2, .int .i64 5, .int .i64 4] 2)).alloc (.cells #[.slice (some ⟨w4.heap.size + 1, 0, none⟩) 3 3, .slice (some ⟨w4.heap.size + 2, 0, none⟩) 3 3, .slice (some ⟨w4.heap.size + 3, 0, none⟩) 3 3] 22)) (by decide) ⟨#[119, 104, 101, 101, 108]⟩ (by decide) (.agg #[.slice (some ⟨w4.heap.size, 0, none⟩) 3 3, .slice (some ⟨w4.heap.size + 4, 0, none⟩) 3 3])
 have hb5 := (below_alloc (below_alloc (below_alloc (below_alloc (below_alloc hb4 (.cells #[.int .i64 0, .int .i64 1, .int .i64 2] 2)) (.cells #[.int .i64 0, .int .i64 3, .int .i64 5] 2)) (.cells #[.int .i64 1, .int .i64 4, .int .i64 3] 2)) (.cells #[.int .i64 2, .int .i64 5, .int .i64 4] 2)) (.cells #[.slice (some ⟨w4.heap.size + 1, 0, none⟩) 3 3, .slice (some ⟨w4.heap.size + 2, 0, none⟩) 3 3, .slice (some ⟨w4.heap.size + 3, 0, none⟩) 3 3] 22)).grown hg5 (by have := below_size (below_alloc (below_alloc (below_alloc (below_alloc (below_alloc hb4 (.cells #[.int .i64 0, .int .i64 1, .int .i64 2] 2)) (.cells #[.int .i64 0, .int .i64 3, .int .i64 5] 2)) (.cells #[.int .i64 1, .int .i64 4, .int .i64 3] 2)) (.cells #[.int .i64 2, .int .i64 5, .int .i64 4] 2)) (.cells #[.slice (some ⟨w4.heap.size + 1, 0, none⟩) 3 3, .slice (some ⟨w4.heap.size + 2, 0, none⟩) 3 3, .slice (some ⟨w4.heap.size + 3, 0, none⟩) 3 3] 22)); exact this) (fun k hk => by injection hk with hk; omega)
 have hs5 : w5.heap.size = w.heap.size + 18 := by rw [hz5]; simp [hs4]
 obtain ⟨w6, hr6, ho6, hg6, hz6⟩ := nm_put (forkNm w.heap.size) (((((ho5.alloc (.cells #[.int .i64 0, .int .i64 1, .int .i64 2, .int .i64 3, .int .i64 4] 2)).alloc (.cells #[.int .i64 0, .int .i64 1, .int .i64 5] 2)).alloc (.cells #[.int .i64 5, .int .i64 2, .int .i64 6] 2)).alloc (.cells #[.int .i64 6, .int .i64 3, .int .i64 4] 2)).alloc (.cells #[.slice (some ⟨w5.heap.size + 1, 0, none⟩) 3 3, .slice (some ⟨w5.heap.size + 2, 0, none⟩) 3 3, .slice (some ⟨w5.heap.size + 3, 0, none⟩) 3 3] 22)) (by decide) ⟨#[99, 111, 109, 98]⟩ (by decide) (.agg #[.slice (some ⟨w5.heap.size, 0, none⟩) 5 5, .slice (some ⟨w5.heap.size + 4, 0, none⟩) 3 3])
 have hb6 := (below_alloc (below_alloc (below_alloc (below_alloc (below_alloc hb5 (.cells #[.int .i64 0, .int .i64 1, .int .i64 2, .int .i64 3, .int .i64 4] 2)) (.cells #[.int .i64 0, .int .i64 1, .int .i64 5] 2)) (.cells #[.int .i64 5, .int .i64 2, .int .i64 6] 2)) (.cells #[.int .i64 6, .int .i64 3, .int .i64 4] 2)) (.cells #[.slice (some ⟨w5.heap.size + 1, 0, none⟩) 3 3, .slice (some ⟨w5.heap.size + 2, 0, none⟩) 3 3, .slice (some ⟨w5.heap.size + 3, 0, none⟩) 3 3] 22)).grown hg6 (by have := below_size (below_alloc (below_alloc (below_alloc (below_alloc (below_alloc hb5 (.cells #[.int .i64 0, .int .i64 1, .int .i64 2, .int .i64 3, .int .i64 4] 2)) (.cells #[.int .i64 0, .int .i64 1, .int .i64 5] 2)) (.cells #[.int .i64 5, .int .i64 2, .int .i64 6] 2)) (.cells #[.int .i64 6, .int .i64 3, .int .i64 4] 2)) (.cells #[.slice (some ⟨w5.heap.size + 1, 0, none⟩) 3 3, .slice (some ⟨w5.heap.size + 2, 0, none⟩) 3 3, .slice (some ⟨w5.heap.size + 3, 0, none⟩) 3 3] 22)); exact this) (fun k hk => by injection hk with hk; omega)
 have hs6 : w6.heap.size = w.heap.size + 23 := by rw [hz6]; simp [hs5]
 have HO6 := Aside0.mk ho6
 have HB6 := Aside0.mk hb6
 have HS1 := Aside0.mk hs1
 have hW1 : (((w1.alloc (.cells #[.int .i64 0, .int .i64 1, .int .i64 2] 2)).alloc (.cells #[.int .i64 0, .int .i64 1, .int .i64 2] 2)).alloc (.cells #[.slice (some ⟨w1.heap.size + 1, 0, none⟩) 3 3] 22)).heap.size = w1.heap.size + 3 := by simp
 have F1 : (((w1.alloc (.cells #[.int .i64 0, .int .i64 1, .int .i64 2] 2)).alloc (.cells #[.int .i64 0, .int .i64 1, .int .i64 2] 2)).alloc (.cells #[.slice (some ⟨w1.heap.size + 1, 0, none⟩) 3 3] 22)).heap[w1.heap.size]? = some (.cells #[.int .i64 0, .int .i64 1, .int .i64 2] 2 (0, 0)) := blk_alloc (blk_alloc (new_at rfl) _) _
 have F2 : (((w1.alloc (.cells #[.int .i64 0, .int .i64 1, .int .i64 2] 2)).alloc (.cells #[.int .i64 0, .int .i64 1, .int .i64 2] 2)).alloc (.cells #[.slice (some ⟨w1.heap.size + 1, 0, none⟩) 3 3] 22)).heap[w1.heap.size + 1]? = some (.cells #[.int .i64 0, .int .i64 1, .int .i64 2] 2 (0, 0)) := blk_alloc (new_at (by simp)) _
 have F3 : (((w1.alloc (.cells #[.int .i64 0, .int .i64 1, .int .i64 2] 2)).alloc (.cells #[.int .i64 0, .int .i64 1, .int .i64 2] 2)).alloc (.cells #[.slice (some ⟨w1.heap.size + 1, 0, none⟩) 3 3] 22)).heap[w1.heap.size + 2]? = some (.cells #[.slice (some ⟨w1.heap.size + 1, 0, none⟩) 3 3] 22 (0, 0)) := new_at (by simp)
 have G : w2.grownBy w6 (some w.heap.size) := (grown_trans (grown_alloc (grown_alloc (grown_alloc (grown_alloc (grown_alloc (grown_trans (grown_alloc (grown_alloc (grown_alloc (grown_alloc (grown_alloc (grown_trans (grown_alloc (grown_alloc (grown_alloc (grown_alloc (grown_trans (grown_alloc (grown_alloc (grown_alloc (grown_alloc (grown_refl w2 (some w.heap.size)) (.cells #[.int .i64 0, .int .i64 1] 2)) (.cells #[.int .i64 0, .int .i64 2, .int .i64 3] 2)) (.cells #[.int .i64 1, .int .i64 3, .int .i64 2] 2)) (.cells #[.slice (some ⟨w2.heap.size + 1, 0, none⟩) 3 3, .slice (some ⟨w2.heap.size + 2, 0, none⟩) 3 3] 22)) hg3) (.cells #[.int .i64 0, .int .i64 1, .int .i64 2, .int .i64 3] 2)) (.cells #[.int .i64 0, .int .i64 1, .int .i64 4] 2)) (.cells #[.int .i64 4, .int .i64 2, .int .i64 3] 2)) (.cells #[.slice (some ⟨w3.heap.size + 1, 0, none⟩) 3 3, .slice (some ⟨w3.heap.size + 2, 0, none⟩) 3 3] 22)) hg4) (.cells #[.int .i64 0, .int .i64 1, .int .i64 2] 2)) (.cells #[.int .i64 0, .int .i64 3, .int .i64 5] 2)) (.cells #[.int .i64 1, .int .i64 4, .int .i64 3] 2)) (.cells #[.int .i64 2, .int .i64 5, .int .i64 4] 2)) (.cells #[.slice (some ⟨w4.heap.size + 1, 0, none⟩) 3 3, .slice (some ⟨w4.heap.size + 2, 0, none⟩) 3 3, .slice (some ⟨w4.heap.size + 3, 0, none⟩) 3 3] 22)) hg5) (.cells #[.int .i64 0, .int .i64 1, .int .i64 2, .int .i64 3, .int .i64 4] 2)) (.cells #[.int .i64 0, .int .i64 1, .int .i64 5] 2)) (.cells #[.int .i64 5, .int .i64 2, .int .i64 6] 2)) (.cells #[.int .i64 6, .int .i64 3, .int .i64 4] 2)) (.cells #[.slice (some ⟨w5.heap.size + 1, 0, none⟩) 3 3, .slice (some ⟨w5.heap.size + 2, 0, none⟩) 3 3, .slice (some ⟨w5.heap.size + 3, 0, none⟩) 3 3] 22)) hg6)
 have K : ∀ k, w1.heap.size ≤ k → k < w1.heap.size + 3 → w6.heap[k]? = (((w1.alloc (.cells #[.int .i64 0, .int .i64 1, .int .i64 2] 2)).alloc (.cells #[.int .i64 0, .int .i64 1, .int .i64 2] 2)).alloc (.cells #[.slice (some ⟨w1.heap.size + 1, 0, none⟩) 3 3] 22)).heap[k]? := fun k h1 h2 => (G.block k (by rw [hz2, hW1]; omega) (fun e => by injection e with e; omega)).trans (hg2.block k (by rw [hW1]; omega) (fun e => by injection e with e; omega))
 have HF1 := Aside0.mk ((K _ (by omega) (by omega)).trans F1)
 have HF2 := Aside0.mk ((K _ (by omega) (by omega)).trans F2)
 have HF3 := Aside0.mk ((K _ (by omega) (by omega)).trans F3)
 clear K G F1 F2 F3 hW1 hBe hs0 hs1 hs2 hs3 hs4 hs5 hs6 hz1 hz2 hz3 hz4 hz5 hz6 ho0 ho1 ho2 ho3 ho4 ho5 ho6 hb0 hb1 hb2 hb3 hb4 hb5 hb6 hB0 hg1 hg2 hg3 hg4 hg5 hg6
 go_enter Try.func103, Try.ntmps103
 go_wp2_with fail
 go_ret
 have h1 := HF1.out
 have h2 := HF2.out
 have h3 := HF3.out
 have ho := HO6.out
 rw [HS1.out] at h1 h2 h3 ho
 exact ⟨rfl, ⟨_, _, _, _, _, _, ho⟩, h1, h2, h3, HB6.out⟩

end Go.Proofs.Ytnlhhbnoccobmaa.F
