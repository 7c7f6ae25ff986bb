/- What impl_flat answers, and that the Go text comes to it: for every world in which the arguments read as told. -/
import Derived.Test.YtfijnlbkflmkbaaFgA
import Derived.Test.YtfijnlbkflmkbaaPureE
namespace Go.Proofs.Ytfijnlbkflmkbaa.F
open Go.RowKit Go.Proofs.YtfijnlbkflmkbaaW.PrintWords Go.Proofs.YtfijnlbkflmkbaaW.PrintLast Go.Proofs.YtfijnlbkflmkbaaW.PrintMore
attribute [local go_sem] max2_int min2_int max_two min_two max_three min_three max_four min_four   -- for this text's walks alone
set_option linter.unusedVariables false
set_option linter.unusedSimpArgs false

/-! ### impl_flat: function 85 (by hand) -/
open Go.Proofs.Ytfijnlbkflmkbaa.Pure
/-- How many chords ahead of i cross chord k. -/
def crossRow (w : List Int) (k : Nat) : Nat → Nat
  | 0 => 0
  | i + 1 => crossRow w k i + (if crossB w i k = true then 1 else 0)
/-- How many pairs of chords below k cross. -/
def crossTo (w : List Int) : Nat → Nat
  | 0 => 0
  | k + 1 => crossTo w k + crossRow w k k
theorem crossRow_le (w : List Int) (k : Nat) : ∀ i, crossRow w k i ≤ i
  | 0 => Nat.le_refl _
  | i + 1 => by have := crossRow_le w k i; unfold crossRow; split <;> omega
theorem crossTo_le (w : List Int) : ∀ k, crossTo w k ≤ k * k
  | 0 => Nat.le_refl _
  | k + 1 => by
    have h1 := crossTo_le w k
    have h2 := crossRow_le w k k
    unfold crossTo
    have : (k + 1) * (k + 1) = k * k + k + k + 1 := by rw [Nat.add_mul, Nat.mul_add]; omega
    omega
def impl_flat.f (l0 : List Int) : Option Bool := if isW l0 = true then some (crossTo l0 (l0.length / 2) == 0) else none
theorem enters_pairs1 : True := trivial

set_option maxHeartbeats 4000000 in
set_option maxRecDepth 100000 in
theorem impl_flat_1.calls (A0 : Option Addr) (c0 : Nat) (l0 : List Int) (i k : Nat) (B : Nat) (w : World) (hr0 : Kd.C (Kd.int .i64) w A0 l0.length l0) (hc0 : l0.length ≤ c0) (hw : Word l0) (hi : i < l0.length / 2) (hk : k < l0.length / 2)
    (hb : w.cell? ⟨B, 0, none⟩ = some (.slice A0 l0.length c0)) :
    Calls Try.prog 142 #[.int .i64 (i : Int), .int .i64 (k : Int), .pointer (some ⟨B, 0, none⟩)] w fun e w' => e = .returned (.bool (crossB l0 i k)) ∧ Drawn0 w w' := by
  obtain ⟨n, hn⟩ := Ev.rounds (icross_ev l0 hw i k hi hk)
  have HN := Aside0.mk hn
  have HR := Aside0.mk hr0
  have HC := Aside0.mk hc0
  clear hn hr0 hc0 hw hi hk
  go_enter Try.func142, Try.ntmps142
  go_wp2_with (first | (go_at_call 113; refine (impl_cross.calls n A0 c0 l0 (i : Int) (k : Int) _ _ HR.out HC.out HN.out).mono ?_; rintro e w' ⟨rfl, ⟨nd, rfl⟩⟩))
  go_ret
  exact ⟨rfl, ⟨_, rfl⟩⟩

set_option maxHeartbeats 8000000 in
set_option maxRecDepth 100000 in
theorem impl_pairs_flat.calls (A0 : Option Addr) (c0 : Nat) (l0 : List Int) (B : Nat) (w : World) (hr0 : Kd.C (Kd.int .i64) w A0 l0.length l0) (hc0 : l0.length ≤ c0) (hw : Word l0)
    (hb : w.cell? ⟨B, 0, none⟩ = some (.slice A0 l0.length c0)) :
    Calls Try.prog 141 #[.slice A0 l0.length c0, .func (.func 142) #[] #[.pointer (some ⟨B, 0, none⟩)]] w fun e w' => e = .returned (.int .i64 (crossTo l0 (l0.length / 2) : Int)) ∧ Drawn0 w w' := by
  have hle := hw.le
  have HW := Aside0.mk hw
  have HR := Aside0.mk hr0
  have HC := Aside0.mk hc0
  have HL := Aside0.mk hle
  obtain ⟨n, hn⟩ : ∃ n, n = l0.length / 2 := ⟨_, rfl⟩
  have hch : impl_chords.f l0 = some (n : Int) := by rw [hn]; exact chords_f l0 hle
  have CH := Aside0.mk hch
  have HN := Aside0.mk hn
  have HN6 := Aside0.mk (show n ≤ 6 by omega)
  have HB := Aside0.mk hb
  clear hw hr0 hc0 hle hb hch hn
  go_enter Try.func141, Try.ntmps141
  go_wp2_with (first | (go_at_call 149; refine (impl_chords.calls A0 c0 l0 _ _ HR.out HC.out CH.out).mono ?_; rintro e w' ⟨rfl, ⟨nd, rfl⟩⟩))
  go_loopw [5, 10] (fun m i wr => ∃ (k t : Nat), i = .int .i64 (k : Int) ∧ m = .int .i64 (t : Int) ∧ Aside0 (t = crossTo l0 k) ∧ Aside0 (k ≤ n) ∧ ∃ nd, wr = w.drewN nd)
    (fun _ i _ => n - (intOf i).toNat)
  case atStart => exact ⟨0, 0, rfl, rfl, ⟨rfl⟩, ⟨Nat.zero_le _⟩, _, rfl⟩
  case round =>
    obtain ⟨k, t, rfl, rfl, HT, HK, nd1, rfl⟩ := hrel
    by_cases hlt : k < n
    · have HLT := Aside0.mk hlt
      have t1 : decide (k < n) = true := decide_eq_true hlt
      have t2 : decide ((k : Int) < (n : Int)) = true := decide_eq_true (by omega)
      clear hlt
      go_wp2
      go_loopw [5, 14] (fun m i wr => ∃ (j t : Nat), i = .int .i64 (j : Int) ∧ m = .int .i64 (t : Int) ∧ Aside0 (t = crossTo l0 k + crossRow l0 k j) ∧ Aside0 (j ≤ k) ∧ ∃ nd, wr = w.drewN nd)
        (fun _ i _ => k - (intOf i).toNat)
      case atStart => exact ⟨0, t, rfl, rfl, ⟨by rw [HT.out]; rfl⟩, ⟨Nat.zero_le _⟩, _, rfl⟩
      case round =>
        clear t1 t2 HT
        obtain ⟨j, t, rfl, rfl, HT, HJ, nd2, rfl⟩ := hrel
        by_cases hlt : j < k
        · have HLJ := Aside0.mk hlt
          have t1 : decide (j < k) = true := decide_eq_true hlt
          have t2 : decide ((j : Int) < (k : Int)) = true := decide_eq_true (by omega)
          have W1 := Aside0.mk (show wrap64 ((j : Int) + 1) = ((j + 1 : Nat) : Int) from by have := HLJ.out; have := HLT.out; have := HN6.out; unfold wrap64; omega)
          have B1 := Aside0.mk (crossTo_le l0 k)
          have B2 := Aside0.mk (crossRow_le l0 k j)
          have B3 := Aside0.mk (show k * k ≤ 6 * 6 from Nat.mul_le_mul (show k ≤ 6 from by have := HLT.out; have := HN6.out; omega) (show k ≤ 6 from by have := HLT.out; have := HN6.out; omega))
          have W2 := Aside0.mk (show wrap64 ((t : Int) + 1) = ((t + 1 : Nat) : Int) from by have := HT.out; have := HLJ.out; have := HLT.out; have := HN6.out; have := B1.out; have := B2.out; have := B3.out; unfold wrap64; omega)
          clear hlt
          cases hc : crossB l0 j k with
          | true =>
            have HCR := Aside0.mk hc
            clear hc
            go_wp2_with (first | (go_at_call 142; refine (impl_flat_1.calls A0 c0 l0 j k B _ (Kd.C_drewN HR.out _) HC.out HW.out (by have := HN.out; have := HLJ.out; have := HLT.out; omega) (by have := HN.out; have := HLT.out; omega) (by have := HB.out; first | exact this | simpa using this)).mono ?_; rintro e w' ⟨rfl, ⟨nd, rfl⟩⟩; rw [HCR.out]))
            go_roundw
            case rel => exact ⟨j + 1, t + 1, by rw [W1.out], by rw [W2.out], ⟨by rw [HT.out, crossRow, if_pos HCR.out, Nat.add_assoc]⟩, ⟨HLJ.out⟩, _, rfl⟩
            case measure => rw [W1.out]; have := HLJ.out; simp [intOf]; omega
          | false =>
            have HCR := Aside0.mk hc
            clear hc
            go_wp2_with (first | (go_at_call 142; refine (impl_flat_1.calls A0 c0 l0 j k B _ (Kd.C_drewN HR.out _) HC.out HW.out (by have := HN.out; have := HLJ.out; have := HLT.out; omega) (by have := HN.out; have := HLT.out; omega) (by have := HB.out; first | exact this | simpa using this)).mono ?_; rintro e w' ⟨rfl, ⟨nd, rfl⟩⟩; rw [HCR.out]))
            go_roundw
            case rel => exact ⟨j + 1, t, by rw [W1.out], rfl, ⟨by rw [HT.out, crossRow, if_neg (by rw [HCR.out]; simp)]; rfl⟩, ⟨HLJ.out⟩, _, rfl⟩
            case measure => rw [W1.out]; have := HLJ.out; simp [intOf]; omega
        · have HJE := Aside0.mk (show j = k from by have := HJ.out; omega)
          have t1 : decide (j < k) = false := decide_eq_false hlt
          have t2 : decide ((j : Int) < (k : Int)) = false := decide_eq_false (by omega)
          have W1 := Aside0.mk (show wrap64 ((k : Int) + 1) = ((k + 1 : Nat) : Int) from by have := HLT.out; have := HN6.out; unfold wrap64; omega)
          clear hlt
          go_wp2
          go_roundw
          case rel => exact ⟨k + 1, t, by rw [W1.out], rfl, ⟨by rw [HT.out, HJE.out]; rfl⟩, ⟨HLT.out⟩, _, rfl⟩
          case measure => rw [W1.out]; have := HLT.out; simp [intOf]; omega
    · have HKE := Aside0.mk (show k = n from by have := HK.out; omega)
      have t1 : decide (k < n) = false := decide_eq_false hlt
      have t2 : decide ((k : Int) < (n : Int)) = false := decide_eq_false (by omega)
      clear hlt
      go_wp2
      go_ret
      exact ⟨by rw [← HN.out, ← HKE.out, ← HT.out]; rfl, ⟨_, rfl⟩⟩

set_option maxHeartbeats 8000000 in
set_option maxRecDepth 100000 in
theorem impl_flat.calls (A0 : Option Addr) (c0 : Nat) (l0 : List Int) (r : Bool) (w : World) (hr0 : Kd.C (Kd.int .i64) w A0 l0.length l0) (hc0 : l0.length ≤ c0) (h : impl_flat.f l0 = some r) :
    Calls Try.prog 85 #[.slice A0 l0.length c0] w fun e w' => e = .returned (.bool r) ∧ Below w.heap.size w w' := by
  have hf : isW l0 = true ∧ r = (crossTo l0 (l0.length / 2) == 0) := by
    unfold impl_flat.f at h
    by_cases hk : isW l0 = true
    · rw [if_pos hk] at h; exact ⟨hk, (Option.some.inj h).symm⟩
    · rw [if_neg hk] at h; exact absurd h (by simp)
  have HW := Aside0.mk ((isW_iff l0).1 hf.1)
  have HRR := Aside0.mk hf.2
  have HR := Aside0.mk hr0
  have HC := Aside0.mk hc0
  clear h hr0 hc0 hf
  have hmf : ∀ (fn : Fn) (first cap : Array Value) (w : World), (Instr.makeFunc fn first cap).run Try.prog w = .ok (.func fn first cap) w := fun _ _ _ _ => rfl
  go_enter Try.func85, Try.ntmps85
  go_wp2_with (first | (go_at_call 141; refine (impl_pairs_flat.calls A0 c0 l0 w.heap.size _ (Kd.C_alloc HR.out _) HC.out HW.out (by simp)).mono ?_; rintro e w' ⟨rfl, ⟨nd, rfl⟩⟩))
  go_ret
  refine ⟨?_, ?_⟩
  · rw [HRR.out]
    show Ending.returned (.bool (((crossTo l0 (l0.length / 2) : Nat) : Int) == 0)) = _
    congr 2
    rw [Bool.eq_iff_iff]; simp
  · repeat (first | exact Below.refl _ _ | apply below_alloc | apply pw_below_drewN | apply below_drew1)

end Go.Proofs.Ytfijnlbkflmkbaa.F
