/- What impl_sets answers, and that the Go text comes to it: for every world in which the arguments read as told. -/
import Derived.Test.YtfijnlbkflmkbaaFgA
import Derived.Test.YtfijnlbkflmkbaaPureE
import Derived.Test.YtfijnlbkflmkbaaPureMem
import Derived.Test.YtfijnlbkflmkbaaPureBits
namespace Go.Proofs.Ytfijnlbkflmkbaa.F
open Go.RowKit Go.Proofs.YtfijnlbkflmkbaaW.PrintWords Go.Proofs.YtfijnlbkflmkbaaW.PrintLast Go.Proofs.YtfijnlbkflmkbaaW.PrintMore
attribute [local go_sem] max2_int min2_int max_two min_two max_three min_three max_four min_four   -- for this text's walks alone
set_option linter.unusedVariables false
set_option linter.unusedSimpArgs false

/-! ### impl_sets: function 163 (by hand) -/
open Go.Proofs.Ytfijnlbkflmkbaa.Pure Go.Proofs.Ytfijnlbkflmkbaa.Mem
/-- The set of chords that a number's bits tell, as far as a chord. -/
def setTo (s i : Nat) : List Nat := (List.range i).filter fun k => s.testBit k
theorem setTo_succ (s i : Nat) : setTo s (i + 1) = if s.testBit i = true then setTo s i ++ [i] else setTo s i := by
  unfold setTo
  rw [List.range_succ, List.filter_append]
  by_cases h : s.testBit i = true
  · rw [if_pos h, List.filter_cons_of_pos (by simpa using h), List.filter_nil]
  · rw [if_neg h, List.filter_cons_of_neg (by simpa using h), List.filter_nil, List.append_nil]
theorem setTo_le (s : Nat) : ∀ i, (setTo s i).length ≤ i
  | 0 => Nat.le_refl _
  | i + 1 => by
    rw [setTo_succ]
    split
    · rw [List.length_append, List.length_singleton]; exact Nat.succ_le_succ (setTo_le s i)
    · exact Nat.le_succ_of_le (setTo_le s i)

theorem bit_form (k j : Nat) (hk : k < 2 ^ 62) (hj : j < 64) : (Go.bits .and .i64 ((k : Int) / 2 ^ min j 64) 1 == 1) = k.testBit j := by
  rw [Nat.min_eq_left (by omega), show ((k : Int) / 2 ^ j) = ((k / 2 ^ j : Nat) : Int) from by rw [Int.natCast_ediv, Int.natCast_pow]; rfl, and1_nat _ (by have := Nat.div_le_self k (2 ^ j); omega), Nat.testBit_eq_decide_div_mod_eq, Bool.eq_iff_iff, beq_iff_eq, decide_eq_true_iff]
  omega
theorem sh_two {n N : Nat} (hn6 : n ≤ 6) (hN : N = 2 ^ n) : wrap64 (2 ^ n) = (N : Int) := by
  subst hN
  have h : 2 ^ n ≤ 64 := Nat.le_trans (Nat.pow_le_pow_right (by decide) hn6) (by decide)
  rw [show ((2 : Int) ^ n) = ((2 ^ n : Nat) : Int) from (Int.natCast_pow 2 n).symm]
  generalize 2 ^ n = m at *
  unfold wrap64; omega
set_option maxHeartbeats 8000000 in
set_option maxRecDepth 100000 in
theorem sets_setNumbers (l0 : List Int) (A0 : Option Addr) (c0 n N : Nat) (hn : n = l0.length / 2) (hle : l0.length ≤ 12) (hN : N = 2 ^ n) (hc0 : l0.length ≤ c0) (Bw Bc Bo Br : Nat) (vals : Nat → List Int) (w : World) (hF : Kd.F (Kd.int .i64) w (fun k => k ≠ Br) A0 l0.length l0) (hBr : Br < w.heap.size)
    (hdo : ∀ (s : Nat) (A : Option Addr) (c : Nat) (w1 : World), s < N → w.grownBy w1 (some Br) → w1.heap[Br]? = some (.cells (nums .i64 (vals s)).toArray 2 (0, 0)) → Kd.F (Kd.int .i64) w1 (fun k => k ≠ Br) A (ints (setTo s n)).length (ints (setTo s n)) → (ints (setTo s n)).length ≤ c →
      Calls Try.prog 164 #[.slice A (ints (setTo s n)).length c, .pointer (some ⟨Bw, 0, none⟩), .pointer (some ⟨Bc, 0, none⟩), .pointer (some ⟨Bo, 0, none⟩)] w1 fun e w2 => e = .returned (.tuple #[]) ∧ w1.grownBy w2 (some Br) ∧ w2.heap[Br]? = some (.cells (nums .i64 (vals (s + 1))).toArray 2 (0, 0)))
    (hv : w.heap[Br]? = some (.cells (nums .i64 (vals 0)).toArray 2 (0, 0))) :
    Calls Try.prog 163 #[.slice A0 l0.length c0, .func (.func 164) #[] #[.pointer (some ⟨Bw, 0, none⟩), .pointer (some ⟨Bc, 0, none⟩), .pointer (some ⟨Bo, 0, none⟩)]] w fun e w2 =>
      e = .returned (.tuple #[]) ∧ w.grownBy w2 (some Br) ∧ w2.heap[Br]? = some (.cells (nums .i64 (vals N)).toArray 2 (0, 0)) := by
  have hn6 : n ≤ 6 := by omega
  have hch : impl_chords.f l0 = some (n : Int) := by rw [hn]; exact chords_f l0 hle
  have hN2 : N ≤ 64 := by rw [hN]; exact Nat.le_trans (Nat.pow_le_pow_right (by decide) hn6) (by decide)
  have CH := Aside0.mk hch
  have HN := Aside0.mk hn
  have HNN := Aside0.mk hN
  have hsh := sh_two hn6 hN
  have HC := Aside0.mk hc0
  have HF := Aside0.mk hF
  have HB0 := Aside0.mk hBr
  have HDO := Aside0.mk hdo
  have HV := Aside0.mk hv
  clear hn hle hN hc0 hF hBr hdo hv hch
  go_enter Try.func163, Try.ntmps163
  go_wp2_with (first | (go_at_call 149; refine (impl_chords.calls A0 c0 l0 _ _ (Kd.F_now HF.out) HC.out CH.out).mono ?_; rintro e w1 ⟨rfl, ⟨nd, rfl⟩⟩))
  simp only [hsh]
  clear hsh
  go_loopw [10] (fun s wr => ∃ k : Nat, s = .int .i64 (k : Int) ∧ Aside0 (k ≤ N) ∧ Aside0 (w.grownBy wr (some Br)) ∧ Aside0 (wr.heap[Br]? = some (.cells (nums .i64 (vals k)).toArray 2 (0, 0))))
    (fun s _ => N - (intOf s).toNat)
  case atStart => exact ⟨0, rfl, ⟨Nat.zero_le _⟩, ⟨grown_drewN (grown_refl _ _) _⟩, ⟨by repeat (first | exact HV.out | refine blk_drewN ?_ _)⟩⟩
  case round =>
    obtain ⟨k, rfl, HK, HG, HH⟩ := hrel
    have HF1 := Aside0.mk (Kd.F_grown HF.out HG.out (fun k hk e => hk (Option.some.inj e)))
    have HB1 := Aside0.mk (Nat.lt_of_lt_of_le HB0.out HG.out.size)
    by_cases hlt : k < N
    · have t1 : decide ((k : Int) < (N : Int)) = true := decide_eq_true (by omega)
      have t2 : decide (k < N) = true := decide_eq_true hlt
      have HLT := Aside0.mk hlt
      clear hlt
      obtain ⟨wo, hwo⟩ : ∃ wo, wo = wr := ⟨wr, rfl⟩
      subst hwo
      go_wp2_with (first
        | ((with_reducible refine gate_dst (N := 13) rfl ?_); refine Kd.R_lit (Kd.int .i64) (w0 := wo) wo.heap.size 2 ?hg (N := 13) ?hd (xs := ([] : List Int)) (inner := []) (ok := fun k => k ≠ Br) (okp := fun _ => False) ?hr ?hp (fun _ hk => hk.elim) (by have := HB1.out; omega) (Below.refl _ _) (Nat.le_refl _) (by simp) ?_; (case hd => rfl); (case hg => rfl); (case hr => first | (go_simp; done) | (go_simp; rfl)); (case hp => exact (Reps.none _ _)); intro v1 w1 ho hb hg_ hnew_; have HO1 := Aside0.mk ho; have HB2 := Aside0.mk hb; clear ho hb hg_ hnew_)
        | (go_at_call 149; refine (impl_chords.calls A0 c0 l0 _ _ (Kd.F_now (Kd.F_below HF1.out HB2.out)) HC.out CH.out).mono ?_; rintro e w2 ⟨rfl, ⟨nd2, rfl⟩⟩))
      go_loopw [5, 16] (fun v i wq => ∃ j : Nat, i = .int .i64 (j : Int) ∧ Aside0 (j ≤ n) ∧ Aside0 (Below wo.heap.size wo wq) ∧ Aside0 (Kd.R (Kd.int .i64) 2 wq wo.heap.size (fun k => k ≠ Br) v (ints (setTo k j))))
        (fun _ i _ => n - (intOf i).toNat)
      case atStart => exact ⟨0, rfl, ⟨Nat.zero_le _⟩, ⟨pw_below_drewN HB2.out _⟩, ⟨Kd.R_drewN HO1.out _⟩⟩
      case round =>
        obtain ⟨j, rfl, HJ, HBQ, HOQ⟩ := hrel
        by_cases hj : j < n
        · have s1 : decide ((j : Int) < (n : Int)) = true := decide_eq_true (by omega)
          have s2 : decide (j < n) = true := decide_eq_true hj
          have HJN := Aside0.mk hj
          clear hj
          have HAL := Aside0.mk (show ((ints (setTo k j)).length + 1) * 8 ≤ 140737488355328 from by rw [ints_len]; have := setTo_le k j; have := HJN.out; omega)
          have hb0 := bit_form k j (by have := HLT.out; omega) (by have := HJN.out; omega)
          have W1 := Aside0.mk (show IntKind.i64.wrap ((j : Int) + 1) = ((j + 1 : Nat) : Int) from (i64_w _).trans (wS (by have := HJN.out; omega)))
          cases hbt : k.testBit j with
          | true =>
            rw [hbt] at hb0
            have HBT := Aside0.mk hbt
            clear hbt
            go_wp2_with (first | (at_builtin; refine Kd.R_append (Kd.int .i64) (w0 := wo) wo.heap.size rfl (.tmp 24) (.tmp 26) 22 2 (.int .i64 0) 8 rfl Try.underlying22 info2 rfl (by decide) (by omega) u5 (ints (setTo k j)) (j : Int) [.int .i64 (j : Int)] (fun k => k ≠ Br) (fun _ => False) rfl rfl ?aP (fun _ hk => hk.elim) ?aF ?aO ?aB ?aS ?aL ?_; (case aP => exact rfl); (case aB => exact HBQ.out); (case aF => exact (fun _ _ => by have := HB1.out; have := HBQ.out.size; omega)); (case aO => exact HOQ.out); (case aS => exact HBQ.out.size); (case aL => exact HAL.out); intro v5 w5 ho hb hg hat; have HO5 := Aside0.mk ho; have HB5 := Aside0.mk hb; clear ho hb hg hat))
            go_roundw
            case rel => exact ⟨j + 1, congrArg _ (wS (by have := HJN.out; omega)), ⟨HJN.out⟩, HB5, ⟨by rw [setTo_succ, if_pos HBT.out, ints_app]; exact HO5.out⟩⟩
            case measure => have := HJN.out; rw [wS (by omega)]; simp [intOf]; omega
          | false =>
            rw [hbt] at hb0
            have HBT := Aside0.mk hbt
            clear hbt
            go_wp2_with fail
            go_roundw
            case rel => exact ⟨j + 1, congrArg _ (wS (by have := HJN.out; omega)), ⟨HJN.out⟩, HBQ, ⟨by rw [setTo_succ, if_neg (by rw [HBT.out]; simp)]; exact HOQ.out⟩⟩
            case measure => have := HJN.out; rw [wS (by omega)]; simp [intOf]; omega
        · have s1 : decide ((j : Int) < (n : Int)) = false := decide_eq_false (by omega)
          have s2 : decide (j < n) = false := decide_eq_false hj
          have HJN := Aside0.mk (show j = n by have := HJ.out; omega)
          clear hj
          obtain ⟨A5, c5, rfl⟩ := Kd.R_slice HOQ.out
          have HCAP := Aside0.mk (Kd.R_reads' HOQ.out).2.1
          have HFO := Aside0.mk (Kd.R_F HOQ.out)
          have HFJ := Aside0.mk HFO.out
          have hjn : n = j := HJN.out.symm
          subst hjn
          go_wp2_with fail
          refine (HDO.out k A5 c5 wr HLT.out (grown_trans HG.out (gb_of_below HBQ.out _)) ((HBQ.out.block Br HB1.out).trans HH.out) HFO.out HCAP.out).mono ?_
          rintro e w3 ⟨rfl, hg3, hh3⟩
          have HG3 := Aside0.mk hg3
          have HH3 := Aside0.mk hh3
          clear hg3 hh3
          have W2 := Aside0.mk (show wrap64 ((k : Int) + 1) = ((k + 1 : Nat) : Int) from wS (by have := HLT.out; omega))
          go_wp2
          go_roundw
          case rel => exact ⟨k + 1, congrArg _ W2.out, ⟨HLT.out⟩, ⟨grown_trans HG.out (grown_trans (gb_of_below HBQ.out _) HG3.out)⟩, HH3⟩
          case measure => rw [W2.out]; have := HLT.out; simp [intOf]; omega
    · have t1 : decide ((k : Int) < (N : Int)) = false := decide_eq_false (by omega)
      have t2 : decide (k < N) = false := decide_eq_false hlt
      have HKN := Aside0.mk (show k = N by have := HK.out; omega)
      clear hlt
      go_wp2_with fail
      go_end0
      exact ⟨rfl, HG.out, by rw [← HKN.out]; exact HH.out⟩

end Go.Proofs.Ytfijnlbkflmkbaa.F
