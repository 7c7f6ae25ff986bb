/- What slices_Concat_int64_int64 answers, and that the Go text comes to it: for every world in which the arguments read as told. -/
import Derived.Test.YtfijnlbkflmkbaaFx0
import Derived.Test.YtfijnlbkflmkbaaFx33
namespace Go.Proofs.Ytfijnlbkflmkbaa.F
open Go.RowKit Go.Proofs.YtfijnlbkflmkbaaW.PrintWords Go.Proofs.YtfijnlbkflmkbaaW.PrintLast Go.Proofs.YtfijnlbkflmkbaaW.PrintMore
attribute [local go_sem] max2_int min2_int max_two min_two max_three min_three max_four min_four   -- for this text's walks alone
set_option linter.unusedVariables false
set_option linter.unusedSimpArgs false

/-! ### slices_Concat_int64_int64: function 106 (by hand) -/
def slices_Concat_int64_int64.f (l0 : List (List Int)) : Option (List Int) := if l0.flatten.length * 8 ≤ 140737488355328 ∧ l0.length ≤ 140737488355328 then some l0.flatten else none
def rdR (xs : List (List Int)) (i : Int) : List Int := xs.getD i.toNat []
theorem at_rdR {w : World} {A : Option Addr} {n : Nat} {xs : List (List Int)} (h : Kd.C (Kd.slice 2 (Kd.int .i64)) w A n xs) (i : Int) (h0 : 0 ≤ i) (h1 : i < n) : ∃ ad A0 c0, A = some ad ∧ w.cell? (ad.add i.toNat) = some (.slice A0 (rdR xs i).length c0) ∧ (rdR xs i).length ≤ c0 ∧ (Kd.int .i64).C w A0 (rdR xs i).length (rdR xs i) := by
  obtain ⟨ad, c, e, _, hK, hc0⟩ := Kd.C_get h ([] : List Int) i h0 h1
  have hc : ∀ j u, c[j]? = some u → w.cell? (ad.add (i.toNat * 1 + j)) = some u := hc0
  obtain ⟨A0, c0, rfl, l0, g0⟩ := hK
  exact ⟨ad, A0, c0, e, by have hq := hc 0 _ rfl; rwa [Nat.mul_one, Nat.add_zero] at hq, l0, g0⟩
theorem flat_snoc {l : List (List Int)} {i : Int} (h0 : 0 ≤ i) (h1 : i < l.length) : (l.take (i + 1).toNat).flatten = (l.take i.toNat).flatten ++ rdR l i := by
  rw [show (i + 1).toNat = i.toNat + 1 from by omega, List.take_succ_eq_append_getElem (by omega), List.flatten_append]
  unfold rdR
  rw [List.getD_eq_getElem?_getD, List.getElem?_eq_getElem (by omega)]
  simp
theorem flat_le (l : List (List Int)) (k : Nat) : (l.take k).flatten.length ≤ l.flatten.length := by
  have e : l.flatten = (l.take k).flatten ++ (l.drop k).flatten := by rw [← List.flatten_append, List.take_append_drop]
  rw [e, List.length_append]
  omega
set_option maxHeartbeats 8000000 in
set_option maxRecDepth 100000 in
theorem slices_Concat_int64_int64.calls (A0 : Option Addr) (c0 : Nat) (l0 : List (List Int)) (r : List Int) (w : World) (hr0 : Kd.C (Kd.slice 2 (Kd.int .i64)) w A0 l0.length l0) (hc0 : l0.length ≤ c0) (h : slices_Concat_int64_int64.f l0 = some r) :
    Calls Try.prog 106 #[.slice A0 l0.length c0] w fun e w' => ∃ v0_ : Value, e = .returned (v0_) ∧ Kd.R (Kd.int .i64) 2 w' w.heap.size (fun _ => True) v0_ r ∧ Below w.heap.size w w' := by
  have HR0 := Aside0.mk hr0
  clear hr0
  unfold slices_Concat_int64_int64.f at h
  have hk : l0.flatten.length * 8 ≤ 140737488355328 ∧ l0.length ≤ 140737488355328 := Decidable.byContradiction fun hk => by
    rw [if_neg hk] at h; exact absurd h (by simp)
  rw [if_pos hk] at h
  have HR : l0.flatten = r := Option.some.inj h
  obtain ⟨HL, LZ⟩ := hk
  have HRR := Aside0.mk HR
  have HLL := Aside0.mk HL
  clear HL h HR
  go_enter Try.func106, Try.ntmps106
  go_wp2
  go_loop [3, 11] (fun s i => ∃ (x : Int) (n : Nat), i = .int .i64 x ∧ s = .int .i64 (n : Int) ∧ Aside0 (0 ≤ x ∧ x ≤ l0.length) ∧ Aside0 (n = (l0.take x.toNat).flatten.length))
    (fun _ i => l0.length - (intOf i).toNat)
  case atStart => exact ⟨0, 0, rfl, rfl, ⟨by omega, by omega⟩, ⟨rfl⟩⟩
  case round =>
    obtain ⟨x, n, rfl, rfl, HX, HN⟩ := hrel
    by_cases hlt : x < (l0.length : Int)
    · have p0 : 0 ≤ x := HX.out.1
      obtain ⟨ad, A1, c1, ead, hcell, hl1, hrow⟩ := at_rdR HR0.out x p0 hlt
      cases ead
      have HX1 := Aside0.mk hlt
      have HX0 := Aside0.mk p0
      have q0 := eq_true p0
      have q1 := eq_true hlt
      have W1 := Aside0.mk (show wrap64 (x + 1) = x + 1 from by unfold wrap64; omega)
      have HS := Aside0.mk (flat_snoc p0 hlt)
      have HF := Aside0.mk (flat_le l0 (x + 1).toNat)
      have W2 := Aside0.mk (show wrap64 ((n : Int) + ((rdR l0 x).length : Int)) = ((n + (rdR l0 x).length : Nat) : Int) from by
        have h1 := HF.out; rw [HS.out, List.length_append, ← HN.out] at h1; have := HLL.out; unfold wrap64; omega)
      have B2 : decide (wrap64 ((n : Int) + ((rdR l0 x).length : Int)) < 0) = false := by rw [W2.out]; exact decide_eq_false (by omega)
      clear p0 hlt hl1 hrow
      go_wp2
      go_round
      case rel => exact ⟨x + 1, n + (rdR l0 x).length, by rw [W1.out], by rw [W2.out], ⟨by have := HX0.out; omega, by have := HX1.out; omega⟩, ⟨by rw [HS.out, List.length_append, ← HN.out]⟩⟩
      case measure => rw [W1.out]; have := HX0.out; have := HX1.out; simp [intOf]; omega
    · have q1 := eq_false hlt
      have HXE := Aside0.mk (show x.toNat = l0.length from by have := HX.out; omega)
      have HN2 := Aside0.mk (show n = l0.flatten.length from by have h := HN.out; rw [HXE.out, List.take_length] at h; exact h)
      clear hlt HN HX
      go_wp2_with (first | (go_at_call 151; refine (slices_Grow_nil.calls (n : Int) _ (by omega) (by have := HN2.out; have := HLL.out; omega)).mono ?_; rintro e w2 ⟨v0, rfl, ho, hb⟩; have HO0 := Aside0.mk ho; have HB0 := Aside0.mk hb; clear ho hb))
      go_loopw [6, 27] (fun v i wr => ∃ (x : Int), i = .int .i64 x ∧ Aside0 (0 ≤ x ∧ x ≤ l0.length) ∧ Aside0 (Kd.R (Kd.int .i64) 2 wr w.heap.size (fun _ => True) v (l0.take x.toNat).flatten) ∧ Aside0 (Below w.heap.size w wr))
        (fun _ i _ => l0.length - (intOf i).toNat)
      case atStart => exact ⟨0, rfl, ⟨by omega, by omega⟩, HO0, HB0⟩
      case round =>
        clear HO0 HB0 HXE HN2 q1
        obtain ⟨x, rfl, HX, HO, HB⟩ := hrel
        by_cases hlt : x < (l0.length : Int)
        · have p0 : 0 ≤ x := HX.out.1
          obtain ⟨ad, A1, c1, ead, hcell, hl1, hrow⟩ := at_rdR HR0.out x p0 hlt
          cases ead
          replace hcell := (HB.out.cell (World.block_lt_of_cell? w _ hcell)).trans hcell
          have HROW := Aside0.mk hrow
          have HX1 := Aside0.mk hlt
          have HX0 := Aside0.mk p0
          have q0 := eq_true p0
          have q1 := eq_true hlt
          have W1 := Aside0.mk (show wrap64 (x + 1) = x + 1 from by unfold wrap64; omega)
          have HS := Aside0.mk (flat_snoc p0 hlt)
          have HF := Aside0.mk (flat_le l0 (x + 1).toNat)
          clear p0 hlt hl1 hrow
          go_wp2_with (first
            | (at_builtin; refine Kd.R_append_rows (Kd.int .i64) (w0 := w) w.heap.size rfl (.tmp 31) (.tmp 32) 22 2 (.int .i64 0) 8 rfl Try.underlying22 info_i64g rfl (by decide) (by omega) u6 (l0.take x.toNat).flatten (rdR l0 x) A1 (rdR l0 x).length c1 (fun _ => True) (fun _ => False) rfl rfl HO.out (Kd.C_below HROW.out HB.out) (fun _ _ h => h) (fun _ hk => hk.elim) (fun _ _ => trivial) HB.out (HB.out.size) (by have h1 := HF.out; rw [HS.out, List.length_append] at h1; have := HLL.out; omega) ?_; intro v9 w9 ho hb hg hat; have HO9 := Aside0.mk ho; have HB9 := Aside0.mk hb; clear ho hb hg hat))
          go_roundw
          case rel => exact ⟨x + 1, by rw [W1.out], ⟨by have := HX0.out; omega, by have := HX1.out; omega⟩, ⟨by rw [HS.out]; exact HO9.out⟩, HB9⟩
          case measure => rw [W1.out]; have := HX0.out; have := HX1.out; simp [intOf]; omega
        · have q1 := eq_false hlt
          have HXE := Aside0.mk (show x.toNat = l0.length from by have := HX.out; omega)
          clear hlt
          go_wp2
          go_ret
          refine ⟨_, rfl, ?_, HB.out⟩
          have h := HO.out
          rw [HXE.out, List.take_length, HRR.out] at h
          exact h

end Go.Proofs.Ytfijnlbkflmkbaa.F
