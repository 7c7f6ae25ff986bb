/- What impl_LeastColours answers, and that the Go text comes to it: for every world in which the arguments read as told. -/
import Derived.Test.YtfijnlbkflmkbaaFgA
import Derived.Test.YtfijnlbkflmkbaaFx119
import Derived.Test.YtfijnlbkflmkbaaPureE
import Derived.Test.YtfijnlbkflmkbaaPureMem
import Derived.Test.YtfijnlbkflmkbaaPureIdxZ
import Derived.WalkSpells
namespace Go.Proofs.Ytfijnlbkflmkbaa.F
open Go.RowKit Go.Proofs.YtfijnlbkflmkbaaW.PrintWords Go.Proofs.YtfijnlbkflmkbaaW.PrintLast Go.Proofs.YtfijnlbkflmkbaaW.PrintMore
attribute [local go_sem] max2_int min2_int max_two min_two max_three min_three max_four min_four   -- for this text's walks alone
set_option linter.unusedVariables false
set_option linter.unusedSimpArgs false

/-! ### impl_LeastColours: function 56 (by hand) -/
open Go.Proofs.Ytfijnlbkflmkbaa.Pure Go.Proofs.Ytfijnlbkflmkbaa.Mem
/-- Whether a number is more than 0. -/
def moreZ (x : Int) : Bool := decide (0 < x)
def impl_LeastColours_1.f (l0 : List Int) : Option Int := (impl_classes.f l0).bind fun t => if t.length ≤ 1000 then some (idxZ moreZ t 0) else none
def impl_LeastColours.f (k : Nat) (l0 : List Int) : Option (Int × Int) := (impl_IsWord.f k l0).bind fun t => (if t = true then ((impl_LeastColours_1.f l0).bind fun t2 => (some (t2, 0))) else (some (0, 1)))
theorem impl_LeastColours.mono : ∀ a0 k, LeO (impl_LeastColours.f k a0) (impl_LeastColours.f (k + 1) a0) := fun _ _ => LeO.bind (impl_IsWord.mono _ _) (fun _ => LeO.ite (LeO.bind (LeO.refl _) fun _ => LeO.refl _) (LeO.refl _))
set_option maxHeartbeats 8000000 in
set_option maxRecDepth 100000 in
theorem least_1_1 (x : Int) (v : Bool) (hv : moreZ x = v) (w : World) :
    Calls Try.prog 120 #[.int .i64 x] w fun e w' => e = .returned (.bool v) ∧ ∃ nd, w' = w.drewN nd := by
  subst hv
  have h0 := Aside0.mk (show decide (x > 0) = moreZ x from rfl)
  go_enter Try.func120, Try.ntmps120
  go_wp2
  go_ret
  exact ⟨rfl, 0, rfl⟩
set_option maxHeartbeats 8000000 in
set_option maxRecDepth 100000 in
theorem least_IndexFunc (l : List Int) (hll : l.length ≤ 1000) (A : Option Addr) (c : Nat) (w : World) (hL : Kd.C (Kd.int .i64) w A l.length l) :
    Calls Try.prog 118 #[.slice A l.length c, .func (.func 120) #[] #[]] w fun e w' =>
      e = .returned (.int .i64 (idxZ moreZ l 0)) ∧ ∃ nd, w' = w.drewN nd := by
  have HLL := Aside0.mk hL
  clear hL
  go_enter Try.func118, Try.ntmps118
  go_wp2
  go_loopw [8] (fun i wr => ∃ x : Nat, i = .int .i64 (x : Int) ∧ Aside0 (x ≤ l.length) ∧ Aside0 ((l.take x).any moreZ = false) ∧ ∃ nd, wr = w.drewN nd)
    (fun i _ => l.length - (intOf i).toNat)
  case atStart => exact ⟨0, rfl, ⟨Nat.zero_le _⟩, ⟨rfl⟩, 0, rfl⟩
  case round =>
    obtain ⟨x, rfl, HX, HA, nd, rfl⟩ := hrel
    by_cases hlt : x < l.length
    · have t1 : decide ((x : Int) < (l.length : Int)) = true := decide_eq_true (by omega)
      have t2 : decide (x < l.length) = true := decide_eq_true hlt
      obtain ⟨ad, ead, hcell⟩ := cell_of_C HLL.out x hlt
      subst ead
      obtain ⟨b, hb⟩ : ∃ b, b = l.getD x 0 := ⟨_, rfl⟩
      rw [← hb] at hcell
      have HT := Aside0.mk (show l.take (x + 1) = l.take x ++ [b] from by rw [List.take_succ_eq_append_getElem hlt, hb, List.getD_eq_getElem?_getD, List.getElem?_eq_getElem hlt]; rfl)
      have HD := Aside0.mk (show l.drop x = b :: l.drop (x + 1) from by rw [List.drop_eq_getElem_cons hlt, hb, List.getD_eq_getElem?_getD, List.getElem?_eq_getElem hlt]; rfl)
      have HLT := Aside0.mk hlt
      have hxl := hlt
      clear hlt hb
      obtain ⟨v, hv⟩ : ∃ v, moreZ b = v := ⟨_, rfl⟩
      have HV := Aside0.mk hv
      clear hv
      cases v with
      | true =>
        go_wp2_with (first | (go_at_call 120; refine (least_1_1 b _ HV.out _).mono ?_; rintro e w2 ⟨rfl, ⟨nd2, rfl⟩⟩))
        go_ret
        refine ⟨?_, _, rfl⟩
        rw [idxZ_skip x HX.out HA.out, HD.out, idxZ, if_pos HV.out]
        rfl
      | false =>
        go_wp2_with (first | (go_at_call 120; refine (least_1_1 b _ HV.out _).mono ?_; rintro e w2 ⟨rfl, ⟨nd2, rfl⟩⟩))
        go_roundw
        case rel => exact ⟨x + 1, rfl, ⟨HLT.out⟩, ⟨by rw [HT.out, List.any_append, HA.out]; simp [HV.out]⟩, _, rfl⟩
        case measure => have := HLT.out; simp [intOf]; omega
    · have t1 : decide ((x : Int) < (l.length : Int)) = false := decide_eq_false (by omega)
      have t2 : decide (x < l.length) = false := decide_eq_false hlt
      have HXE := Aside0.mk (show x = l.length from by have := HX.out; omega)
      clear hlt
      go_wp2
      go_ret
      refine ⟨?_, _, rfl⟩
      have h := HA.out
      rw [HXE.out] at h
      rw [idxZ_skip l.length (Nat.le_refl _) h, List.drop_of_length_le (Nat.le_refl _)]
      rfl
set_option maxHeartbeats 8000000 in
set_option maxRecDepth 100000 in
theorem impl_LeastColours_1.calls (A0 : Option Addr) (c0 : Nat) (l0 : List Int) (r : Int) (w : World) (hr0 : Kd.C (Kd.int .i64) w A0 l0.length l0) (hc0 : l0.length ≤ c0) (h : impl_LeastColours_1.f l0 = some r) :
    Calls Try.prog 117 #[.slice A0 l0.length c0] w fun e w' => e = .returned (.int .i64 r) ∧ Below w.heap.size w w' := by
  unfold impl_LeastColours_1.f at h
  obtain ⟨t, ht, h⟩ := Option.bind_eq_some_iff.1 h
  by_cases hl : t.length ≤ 1000
  · rw [if_pos hl] at h
    have hr := (Option.some.inj h).symm
    subst hr
    have HR := Aside0.mk hr0
    have HC := Aside0.mk hc0
    have HT := Aside0.mk ht
    have HL := Aside0.mk hl
    clear hr0 hc0 h ht hl
    go_enter Try.func117, Try.ntmps117
    go_wp2_with (first | (go_at_call 119; refine (impl_classes.calls A0 c0 l0 t _ HR.out HC.out HT.out).mono ?_; rintro e w2 ⟨v0, rfl, ho2, hb2⟩; have HB2 := Aside0.mk hb2; obtain ⟨A2, c2, rfl, hl2, hC2⟩ := Kd.R_reads ho2; have HC2 := Aside0.mk hC2; clear ho2 hb2 hC2) | (go_at_call 118; refine (least_IndexFunc t HL.out A2 c2 _ HC2.out).mono ?_; rintro e w3 ⟨rfl, ⟨nd, rfl⟩⟩))
    go_ret
    exact ⟨rfl, pw_below_drewN HB2.out _⟩
  · rw [if_neg hl] at h; exact absurd h (by simp)
set_option maxHeartbeats 8000000 in
set_option maxRecDepth 100000 in
theorem countOf_LeastColours.calls (k : Nat) (A0 : Option Addr) (c0 : Nat) (l0 : List Int) (r1 : Int) (r2 : Int) (w : World) (hr0 : Kd.C (Kd.int .i64) w A0 l0.length l0) (hc0 : l0.length ≤ c0) (h : impl_LeastColours.f k l0 = some (r1, r2)) :
    Calls Try.prog 116 #[.slice A0 l0.length c0, .func (.func 117) #[] #[]] w fun e w' => e = .returned (.tuple #[.int .i64 r1, .int .i64 r2]) ∧ Below w.heap.size w w' := by
  have HR := Aside0.mk hr0
  have HC := Aside0.mk hc0
  clear hr0 hc0
  unfold impl_LeastColours.f at h
  obtain ⟨t, ht, h⟩ := Option.bind_eq_some_iff.1 h
  have HT := Aside0.mk ht
  clear ht
  cases t with
  | true =>
    rw [if_pos rfl] at h
    obtain ⟨t2, ht2, h⟩ := Option.bind_eq_some_iff.1 h
    have HG := Aside0.mk ht2
    simp only [Option.some.injEq, Prod.mk.injEq] at h
    obtain ⟨rfl, rfl⟩ := h
    clear ht2
    go_enter Try.func116, Try.ntmps116
    go_wp2_with (first
      | (go_at_call 84; refine (impl_IsWord.calls k A0 c0 l0 true _ HR.out HC.out HT.out).mono ?_; rintro e w1 ⟨rfl, hb1⟩; have HB1 := Aside0.mk hb1; clear hb1)
      | (go_at_call 117; refine (impl_LeastColours_1.calls A0 c0 l0 t2 _ (Kd.C_below HR.out HB1.out) HC.out HG.out).mono ?_; rintro e w2 ⟨rfl, hb2⟩; have HB2 := Aside0.mk hb2; clear hb2))
    go_ret2
    exact ⟨rfl, below_step HB1.out HB2.out⟩
  | false =>
    rw [if_neg (by simp)] at h
    simp only [Option.some.injEq, Prod.mk.injEq] at h
    obtain ⟨rfl, rfl⟩ := h
    go_enter Try.func116, Try.ntmps116
    go_wp2_with (first
      | (go_at_call 84; refine (impl_IsWord.calls k A0 c0 l0 false _ HR.out HC.out HT.out).mono ?_; rintro e w1 ⟨rfl, hb1⟩; have HB1 := Aside0.mk hb1; clear hb1))
    go_ret2
    exact ⟨rfl, HB1.out⟩
set_option maxHeartbeats 8000000 in
set_option maxRecDepth 100000 in
theorem impl_LeastColours.calls (k : Nat) (A0 : Option Addr) (c0 : Nat) (l0 : List Int) (r1 : Int) (r2 : Int) (w : World) (hr0 : Kd.C (Kd.int .i64) w A0 l0.length l0) (hc0 : l0.length ≤ c0) (h : impl_LeastColours.f k l0 = some (r1, r2)) :
    Calls Try.prog 56 #[.slice A0 l0.length c0] w fun e w' => e = .returned (.tuple #[.int .i64 r1, .int .i64 r2]) ∧ Below w.heap.size w w' := by
  have HR := Aside0.mk hr0
  have HC := Aside0.mk hc0
  have HF := Aside0.mk h
  clear hr0 hc0 h
  go_enter Try.func56, Try.ntmps56
  go_wp2_with (first
    | (go_at_call 116; refine (countOf_LeastColours.calls k A0 c0 l0 r1 r2 _ HR.out HC.out HF.out).mono ?_; rintro e w2 ⟨rfl, hb2⟩; have HB2 := Aside0.mk hb2; clear hb2))
  go_ret2
  exact ⟨rfl, HB2.out⟩

end Go.Proofs.Ytfijnlbkflmkbaa.F
