/- What impl_invalid answers, and that the Go text comes to it: for every world in which the arguments read as told. -/
import Derived.Test.YtfijnlbkflmkbaaFgA
import Derived.Test.YtfijnlbkflmkbaaPureC
namespace Go.Proofs.Ytfijnlbkflmkbaa.F
open Go.RowKit Go.Proofs.YtfijnlbkflmkbaaW.PrintWords Go.Proofs.YtfijnlbkflmkbaaW.PrintLast Go.Proofs.YtfijnlbkflmkbaaW.PrintMore
attribute [local go_sem] max2_int min2_int max_two min_two max_three min_three max_four min_four   -- for this text's walks alone
set_option linter.unusedVariables false
set_option linter.unusedSimpArgs false

/-! ### impl_invalid: function 134 (by hand) -/
open Go.Proofs.Ytfijnlbkflmkbaa.Pure
def wfL (l : List Int) : Bool := l.all fun x => (Lit.int .i64 x).wf
theorem wfL_of {l : List Int} (h : wfL l = true) (x : Int) (hx : x ∈ l) : (Lit.int .i64 x).wf = true := List.all_eq_true.1 h x hx
def impl_invalid.f (l0 : List (List Int)) : Option Int := if l0.all wfL = true ∧ l0.length ≤ 140737488355328 then some (if l0.all isW then 0 else 1) else none
/-- Where the first list that is no word stands. -/
def idxBad : List (List Int) → Nat → Int
  | [], _ => -1
  | r :: t, n => if isW r = true then idxBad t (n + 1) else n
theorem idxBad_ge : ∀ (l : List (List Int)) (n : Nat), decide (0 ≤ idxBad l n) = !(l.all isW)
  | [], n => by simp [idxBad]
  | r :: t, n => by
    rw [idxBad, List.all_cons]
    by_cases h : isW r = true
    · rw [if_pos h, h, Bool.true_and]; exact idxBad_ge t (n + 1)
    · rw [if_neg h, show isW r = false from by simpa using h]; simp
theorem idxBad_skip {l : List (List Int)} : ∀ n : Nat, n ≤ l.length → (l.take n).all isW = true → idxBad l 0 = idxBad (l.drop n) n
  | 0, _, _ => rfl
  | n + 1, hn, h => by
    rw [List.take_succ_eq_append_getElem (by omega), List.all_append, Bool.and_eq_true] at h
    rw [idxBad_skip n (by omega) h.1, List.drop_eq_getElem_cons (by omega), idxBad, if_pos (by simpa using h.2)]
theorem rdR_eq {l : List (List Int)} {i : Int} (h0 : 0 ≤ i) (h1 : i < l.length) : rdR l i = l[i.toNat]'(by omega) := by
  unfold rdR; rw [List.getD_eq_getElem?_getD, List.getElem?_eq_getElem (by omega)]; rfl
theorem rdR_mem {l : List (List Int)} {i : Int} (h0 : 0 ≤ i) (h1 : i < l.length) : rdR l i ∈ l := by rw [rdR_eq h0 h1]; exact List.getElem_mem _

set_option maxHeartbeats 4000000 in
set_option maxRecDepth 100000 in
theorem impl_invalid_1.calls (A0 : Option Addr) (c0 : Nat) (l0 : List Int) (w : World) (hr0 : Kd.C (Kd.int .i64) w A0 l0.length l0) (hc0 : l0.length ≤ c0) (hwf : wfL l0 = true) :
    Calls Try.prog 177 #[.slice A0 l0.length c0] w fun e w' => e = .returned (.bool (!isW l0)) ∧ Below w.heap.size w w' := by
  obtain ⟨n, hn⟩ := Ev.rounds (isWord_ev l0 (fun x hx => wfL_of hwf x hx))
  have HN := Aside0.mk hn
  have HR := Aside0.mk hr0
  have HC := Aside0.mk hc0
  clear hn hr0 hc0 hwf
  go_enter Try.func177, Try.ntmps177
  go_wp2_with (first | (go_at_call 84; refine (impl_IsWord.calls n A0 c0 l0 _ _ HR.out HC.out HN.out).mono ?_; rintro e w1 ⟨rfl, hb1⟩; have HB1 := Aside0.mk hb1; clear hb1))
  go_ret
  exact ⟨rfl, HB1.out⟩

set_option maxHeartbeats 8000000 in
set_option maxRecDepth 100000 in
theorem slices_IndexFunc_invalid.calls (A0 : Option Addr) (c0 : Nat) (l0 : List (List Int)) (w : World) (hr0 : Kd.C (Kd.slice 2 (Kd.int .i64)) w A0 l0.length l0) (hc0 : l0.length ≤ c0) (hwf : l0.all wfL = true) (hlen : l0.length ≤ 140737488355328) :
    Calls Try.prog 187 #[.slice A0 l0.length c0, .func (.func 177) #[] #[]] w fun e w' => e = .returned (.int .i64 (idxBad l0 0)) ∧ Below w.heap.size w w' := by
  have HR := Aside0.mk hr0
  have HC := Aside0.mk hc0
  have HW := Aside0.mk (List.all_eq_true.1 hwf)
  have HL := Aside0.mk hlen
  clear hr0 hc0 hwf hlen
  go_enter Try.func187, Try.ntmps187
  go_wp2
  go_loopw [8] (fun i wr => ∃ x : Int, i = .int .i64 x ∧ Aside0 (0 ≤ x ∧ x ≤ l0.length) ∧ Aside0 ((l0.take x.toNat).all isW = true) ∧ Aside0 (Below w.heap.size w wr))
    (fun i _ => l0.length - (intOf i).toNat)
  case atStart => exact ⟨0, rfl, ⟨by omega, by omega⟩, ⟨rfl⟩, ⟨Below.refl _ _⟩⟩
  case round =>
    obtain ⟨x, rfl, HX, HA, HB⟩ := hrel
    by_cases hlt : x < (l0.length : Int)
    · have p0 : 0 ≤ x := HX.out.1
      obtain ⟨ad, A1, c1, ead, hcell, hl1, hrow⟩ := at_rdR HR.out x p0 hlt
      cases ead
      replace hcell := (HB.out.cell (World.block_lt_of_cell? w _ hcell)).trans hcell
      have HROW := Aside0.mk hrow
      have HL1 := Aside0.mk hl1
      have HWF := Aside0.mk (HW.out _ (rdR_mem p0 hlt))
      have HX1 := Aside0.mk hlt
      have HX0 := Aside0.mk p0
      have HE := Aside0.mk (show ∀ h : x.toNat < l0.length, rdR l0 x = l0[x.toNat]'h from fun _ => rdR_eq p0 hlt)
      have W1 := Aside0.mk (show wrap64 (x + 1) = x + 1 from by have := HL.out; unfold wrap64; omega)
      have q0 := eq_true p0
      have q1 := eq_true hlt
      clear p0 hlt hrow hl1
      cases hb : isW (rdR l0 x) with
      | true =>
        have HBW := Aside0.mk hb
        clear hb
        go_wp2_with (first | (go_at_call 177; refine (impl_invalid_1.calls A1 c1 (rdR l0 x) _ (Kd.C_below HROW.out HB.out) HL1.out HWF.out).mono ?_; rintro e w1 ⟨rfl, hb1⟩; rw [HBW.out]; have HB1 := Aside0.mk hb1; clear hb1))
        go_roundw
        case rel =>
          refine ⟨x + 1, by rw [W1.out], ⟨by have := HX0.out; omega, by have := HX1.out; omega⟩, ⟨?_⟩, ⟨below_step HB.out HB1.out⟩⟩
          rw [show (x + 1).toNat = x.toNat + 1 from by have := HX0.out; omega, List.take_succ_eq_append_getElem (by have := HX0.out; have := HX1.out; omega), List.all_append, HA.out, ← HE.out _]
          simp [HBW.out]
        case measure => rw [W1.out]; have := HX0.out; have := HX1.out; simp [intOf]; omega
      | false =>
        have HBW := Aside0.mk hb
        clear hb
        go_wp2_with (first | (go_at_call 177; refine (impl_invalid_1.calls A1 c1 (rdR l0 x) _ (Kd.C_below HROW.out HB.out) HL1.out HWF.out).mono ?_; rintro e w1 ⟨rfl, hb1⟩; rw [HBW.out]; have HB1 := Aside0.mk hb1; clear hb1))
        go_ret
        refine ⟨?_, below_step HB.out HB1.out⟩
        have h1 := HX0.out
        have h2 := HX1.out
        rw [idxBad_skip x.toNat (by omega) HA.out, List.drop_eq_getElem_cons (by omega), idxBad, if_neg (by rw [← HE.out _, HBW.out]; simp), Int.toNat_of_nonneg h1]
        rfl
    · have q1 := eq_false hlt
      have HXE := Aside0.mk (show x.toNat = l0.length from by have := HX.out; omega)
      clear hlt
      go_wp2
      go_ret
      refine ⟨?_, HB.out⟩
      have h := HA.out
      rw [HXE.out] at h
      rw [idxBad_skip l0.length (Nat.le_refl _) h, List.drop_of_length_le (Nat.le_refl _)]
      rfl

set_option maxHeartbeats 8000000 in
set_option maxRecDepth 100000 in
theorem slices_ContainsFunc_invalid.calls (A0 : Option Addr) (c0 : Nat) (l0 : List (List Int)) (w : World) (hr0 : Kd.C (Kd.slice 2 (Kd.int .i64)) w A0 l0.length l0) (hc0 : l0.length ≤ c0) (hwf : l0.all wfL = true) (hlen : l0.length ≤ 140737488355328) :
    Calls Try.prog 176 #[.slice A0 l0.length c0, .func (.func 177) #[] #[]] w fun e w' => e = .returned (.bool (!(l0.all isW))) ∧ Below w.heap.size w w' := by
  have HR := Aside0.mk hr0
  have HC := Aside0.mk hc0
  have HW := Aside0.mk hwf
  have HL := Aside0.mk hlen
  have HI := Aside0.mk (idxBad_ge l0 0)
  clear hr0 hc0 hwf hlen
  go_enter Try.func176, Try.ntmps176
  go_wp2_with (first | (go_at_call 187; refine (slices_IndexFunc_invalid.calls A0 c0 l0 _ HR.out HC.out HW.out HL.out).mono ?_; rintro e w1 ⟨rfl, hb1⟩; have HB1 := Aside0.mk hb1; clear hb1))
  go_ret
  exact ⟨by rw [← HI.out]; rfl, HB1.out⟩

set_option maxHeartbeats 8000000 in
set_option maxRecDepth 100000 in
theorem impl_invalid.calls (A0 : Option Addr) (c0 : Nat) (l0 : List (List Int)) (r : Int) (w : World) (hr0 : Kd.C (Kd.slice 2 (Kd.int .i64)) w A0 l0.length l0) (hc0 : l0.length ≤ c0) (h : impl_invalid.f l0 = some r) :
    Calls Try.prog 134 #[.slice A0 l0.length c0] w fun e w' => e = .returned (.int .i64 r) ∧ Below w.heap.size w w' := by
  have HR := Aside0.mk hr0
  have HC := Aside0.mk hc0
  unfold impl_invalid.f at h
  have hk : l0.all wfL = true ∧ l0.length ≤ 140737488355328 := Decidable.byContradiction fun hk => by
    rw [if_neg hk] at h; exact absurd h (by simp)
  rw [if_pos hk] at h
  have HRR := Aside0.mk (Option.some.inj h)
  have HW := Aside0.mk hk.1
  have HL := Aside0.mk hk.2
  clear hr0 hc0 h hk
  cases ha : l0.all isW with
  | true =>
    have HA := Aside0.mk ha
    clear ha
    go_enter Try.func134, Try.ntmps134
    go_wp2_with (first | (go_at_call 176; refine (slices_ContainsFunc_invalid.calls A0 c0 l0 _ HR.out HC.out HW.out HL.out).mono ?_; rintro e w1 ⟨rfl, hb1⟩; rw [HA.out]; have HB1 := Aside0.mk hb1; clear hb1))
    go_ret
    exact ⟨by rw [← HRR.out, HA.out]; rfl, HB1.out⟩
  | false =>
    have HA := Aside0.mk ha
    clear ha
    go_enter Try.func134, Try.ntmps134
    go_wp2_with (first | (go_at_call 176; refine (slices_ContainsFunc_invalid.calls A0 c0 l0 _ HR.out HC.out HW.out HL.out).mono ?_; rintro e w1 ⟨rfl, hb1⟩; rw [HA.out]; have HB1 := Aside0.mk hb1; clear hb1))
    go_ret
    exact ⟨by rw [← HRR.out, HA.out]; rfl, HB1.out⟩

end Go.Proofs.Ytfijnlbkflmkbaa.F
