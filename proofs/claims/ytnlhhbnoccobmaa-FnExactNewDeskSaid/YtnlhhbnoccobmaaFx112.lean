/- What laws_markInt64SS answers, and that the Go text comes to it: for every world in which the arguments read as told. -/
import Derived.Test.YtnlhhbnoccobmaaFgA
import Derived.Test.YtnlhhbnoccobmaaPureMem
import Derived.Test.YtnlhhbnoccobmaaPureA
namespace Go.Proofs.Ytnlhhbnoccobmaa.F
open Go.RowKit Go.Proofs.YtnlhhbnoccobmaaW.PrintWords Go.Proofs.YtnlhhbnoccobmaaW.PrintLast Go.Proofs.YtnlhhbnoccobmaaW.PrintMore
attribute [local go_sem] max2_int min2_int max_two min_two max_three min_three max_four min_four   -- for this text's walks alone
set_option linter.unusedVariables false
set_option linter.unusedSimpArgs false

/-! ### laws_markInt64SS: function 112 (by hand) -/
open Go.Proofs.Ytnlhhbnoccobmaa.Mem Go.Proofs.Ytnlhhbnoccobmaa.Pure
def laws_markInt64SS.l0 : Nat → List (List Int) → Int → Int → Option (Int × List (List Int))
  | 0, _, _, _ => none
  | k + 1, x0, x1, x5 => if x5 < (x0.length : Int) then ((laws_markInt64S.f k (x0.getD x5.toNat []) x1).bind fun b => laws_markInt64SS.l0 k (x0.set x5.toNat b.2) b.1 (wrap64 (x5 + 1))) else some (x1, x0)
def laws_markInt64SS.f (k : Nat) (l0 : List (List Int)) (a1 : Int) : Option (Int × List (List Int)) := laws_markInt64SS.l0 k l0 a1 0
theorem laws_markInt64SS.mono_l : ∀ k, ∀ y0 y1 y2, LeO (laws_markInt64SS.l0 k y0 y1 y2) (laws_markInt64SS.l0 (k + 1) y0 y1 y2)
  | 0 => fun _ _ _ r h => by simp [laws_markInt64SS.l0] at h
  | k + 1 => fun y0 y1 y2 => by
    have ih := laws_markInt64SS.mono_l k
    unfold laws_markInt64SS.l0
    exact LeO.ite (LeO.bind (laws_markInt64S.mono _ _ _) (fun _ => ih _ _ _)) (LeO.refl _)
theorem laws_markInt64SS.mono : ∀ a0 a1 k, LeO (laws_markInt64SS.f k a0 a1) (laws_markInt64SS.f (k + 1) a0 a1) := fun a0 a1 k => laws_markInt64SS.mono_l k _ _ _
set_option maxHeartbeats 4000000 in
set_option maxRecDepth 100000 in
theorem laws_markInt64SS.calls (k : Nat) (P0 : Nat → Prop) (u : Value) (l0 : List (List Int)) (a1 : Int) (r1 : Int) (r2 : List (List Int)) (w0 w : World) (hB : Below w0.heap.size w0 w) (hlen : l0.length ≤ 1000000000) (ho0 : Kd.S (Kd.slice 2 (Kd.int .i64)) 22 w w0.heap.size P0 u l0) (h : laws_markInt64SS.f k l0 a1 = some (r1, r2)) :
    Calls Try.prog 112 #[u, .int .i64 a1] w fun e w' => e = .returned (.int .i64 r1) ∧ Kd.S (Kd.slice 2 (Kd.int .i64)) 22 w' w0.heap.size P0 u r2 ∧ Below w0.heap.size w0 w' ∧ Kept w w' P0 := by
  obtain ⟨A, c, rfl⟩ := Kd.S_slice ho0
  obtain ⟨n, hn⟩ : ∃ n, n = l0.length := ⟨_, rfl⟩
  rw [← hn] at ho0 ⊢
  have HN := Aside0.mk hn
  have HB := Aside0.mk hB
  have HO := Aside0.mk ho0
  have HF := Aside0.mk h
  have hn9 : n ≤ 1000000000 := by omega
  clear hn hB ho0 h hlen
  go_enter Try.func112, Try.ntmps112
  go_wp2
  go_loopw [1, 5] (fun s1 s5 wr => ∃ (x kq : Nat) (m : Int) (xs : List (List Int)), s1 = .int .i64 m ∧ s5 = .int .i64 (x : Int) ∧ Aside0 (x ≤ n) ∧ Aside0 (laws_markInt64SS.l0 kq xs m (x : Int) = some (r1, r2)) ∧ Aside0 (xs.length = n) ∧ Aside0 (Kd.S (Kd.slice 2 (Kd.int .i64)) 22 wr w0.heap.size P0 (.slice A n c) xs) ∧ Aside0 (Below w0.heap.size w0 wr) ∧ Aside0 (Kept w wr P0))
    (fun _ s5 _ => n - (intOf s5).toNat)
  case atStart => exact ⟨0, k, a1, l0, rfl, rfl, ⟨Nat.zero_le _⟩, ⟨HF.out⟩, ⟨HN.out.symm⟩, HO, HB, ⟨Kept.refl _ _⟩⟩
  case round =>
    obtain ⟨x, kq, m, xs, rfl, rfl, HX, HL, HXL, HS, HBR, HK⟩ := hrel
    by_cases hlt : x < n
    · have t1 : decide ((x : Int) < (n : Int)) = true := decide_eq_true (by omega)
      have t2 : decide (x < n) = true := decide_eq_true hlt
      have HLT := Aside0.mk hlt
      obtain ⟨k', b, hk, hb, hl⟩ : ∃ k' b, kq = k' + 1 ∧ laws_markInt64S.f k' (xs.getD x []) m = some b ∧ laws_markInt64SS.l0 k' (xs.set x b.2) b.1 (wrap64 ((x : Int) + 1)) = some (r1, r2) := by
        have h := HL.out
        cases kq with
        | zero => exact absurd h (by simp [laws_markInt64SS.l0])
        | succ k' =>
          rw [laws_markInt64SS.l0, if_pos (by rw [HXL.out]; omega)] at h
          obtain ⟨b, hb, hl⟩ := Option.bind_eq_some_iff.1 h
          rw [Int.toNat_natCast] at hb hl
          exact ⟨k', b, rfl, hb, hl⟩
      obtain ⟨m', row'⟩ := b
      have hne := (Kd.S_reads' HS.out).2.2.2.2 (by rw [HXL.out]; omega)
      obtain ⟨ad, rfl, _⟩ := hne
      obtain ⟨oki, cs, hcl, hM, hcc, hoki, hback⟩ := Kd.S_borrow HS.out [] (x : Int) (by omega) (by omega)
      obtain ⟨v, rfl, hR⟩ := hM
      have hrow := hcc 0 v rfl
      rw [show (Kd.slice 2 (Kd.int .i64)).sz = 1 from rfl, Nat.mul_one, Nat.add_zero, Int.toNat_natCast] at hrow
      obtain ⟨Av, cv, rfl⟩ := Kd.R_slice hR
      rw [Int.toNat_natCast] at hR hback hrow
      have HRV := Aside0.mk hR
      have HBK := Aside0.mk (fun (w1 : World) (hg : wr.grownBy w1 (Value.slice Av (xs.getD x []).length cv).ownBlock) (hm : Kd.R (Kd.int .i64) 2 w1 w0.heap.size oki (.slice Av (xs.getD x []).length cv) row') => hback (x' := row') hg (fun k hk => hR.1 k hk) ⟨_, rfl, hm⟩)
      have HOK := Aside0.mk hoki
      have HMK := Aside0.mk hb
      have HLK := Aside0.mk hl
      clear hR hback hb hl hcc hoki hcl hk
      go_wp2_with (first | (go_at_call 38; refine (laws_markInt64S.calls k' (fun k_ => some k_ = (Value.slice Av (xs.getD x []).length cv).ownBlock) _ (xs.getD x []) m m' row' w0 wr HBR.out (Kd.R_tight rfl HRV.out) HMK.out).mono ?_; rintro e w2 ⟨rfl, hy2, hb2, hk2⟩; have HY2 := Aside0.mk hy2; have HB2 := Aside0.mk hb2; have HK2 := Aside0.mk hk2; clear hy2 hb2 hk2))
      have HS2 := Aside0.mk (HBK.out w2 ⟨HB2.out.os.trans HBR.out.os.symm, HB2.out.tape.trans HBR.out.tape.symm, HB2.out.output.trans HBR.out.output.symm, HK2.out.1, fun k hk hr => HK2.out.2 k hk (fun e => hr e)⟩ (Kd.R_mono (Kd.R_tight rfl HY2.out) (fun k hk => HRV.out.1 k hk.symm)))
      go_roundw
      case rel => exact ⟨x + 1, k', m', xs.set x row', rfl, rfl, ⟨HLT.out⟩, ⟨by rw [← wS (by have := HLT.out; omega)]; exact HLK.out⟩, ⟨by rw [List.length_set]; exact HXL.out⟩, HS2, HB2, ⟨⟨Nat.le_trans HK.out.1 HK2.out.1, fun k hk hp => (HK2.out.2 k (Nat.lt_of_lt_of_le hk HK.out.1) (fun e => hp ((HOK.out k (HRV.out.1 k e.symm)).1))).trans (HK.out.2 k hk hp)⟩⟩⟩
      case measure => have := HLT.out; simp [intOf]; omega
    · have t1 : decide ((x : Int) < (n : Int)) = false := decide_eq_false (by omega)
      have t2 : decide (x < n) = false := decide_eq_false hlt
      have hrr : m = r1 ∧ xs = r2 := by
        have h := HL.out
        cases kq with
        | zero => exact absurd h (by simp [laws_markInt64SS.l0])
        | succ k' =>
          rw [laws_markInt64SS.l0, if_neg (by rw [HXL.out]; omega)] at h
          simpa using h
      obtain ⟨rfl, rfl⟩ := hrr
      clear hlt
      go_wp2
      go_ret
      exact ⟨rfl, HS.out, HBR.out, HK.out⟩

end Go.Proofs.Ytnlhhbnoccobmaa.F
