/- What impl_normal answers, and that the Go text comes to it: for every world in which the arguments read as told. -/
import Derived.Test.YtfijnlbkflmkbaaFx0
import Derived.Test.YtfijnlbkflmkbaaFx20
namespace Go.Proofs.Ytfijnlbkflmkbaa.F
open Go.RowKit Go.Proofs.YtfijnlbkflmkbaaW.PrintWords Go.Proofs.YtfijnlbkflmkbaaW.PrintLast Go.Proofs.YtfijnlbkflmkbaaW.PrintMore
attribute [local go_sem] max2_int min2_int max_two min_two max_three min_three max_four min_four   -- for this text's walks alone
set_option linter.unusedVariables false
set_option linter.unusedSimpArgs false

/-! ### impl_normal: function 105 (by hand) -/
open Go.Maps

/-- The numbers met so far, and the normal word so far. -/
def nst (l : List Int) : List Int × List Int :=
  l.foldl (fun s x => if s.1.contains x then (s.1, s.2 ++ [(s.1.idxOf x : Int)]) else (s.1 ++ [x], s.2 ++ [(s.1.length : Int)])) ([], [])
def mets (l : List Int) : List Int := (nst l).1
def nrm (l : List Int) : List Int := (nst l).2
theorem mets_nil : mets [] = [] := rfl
theorem nrm_nil : nrm [] = [] := rfl
theorem mets_snoc (l : List Int) (x : Int) : mets (l ++ [x]) = if (mets l).contains x then mets l else mets l ++ [x] := by
  unfold mets nst
  rw [List.foldl_append]
  simp only [List.foldl_cons, List.foldl_nil]
  split <;> rfl
theorem nrm_snoc (l : List Int) (x : Int) : nrm (l ++ [x]) = nrm l ++ [if (mets l).contains x then ((mets l).idxOf x : Int) else ((mets l).length : Int)] := by
  unfold nrm mets nst
  rw [List.foldl_append]
  simp only [List.foldl_cons, List.foldl_nil]
  split <;> rfl
theorem mets_le (l : List Int) : (mets l).length ≤ l.length := by
  suffices h : ∀ n, ∀ l : List Int, l.length = n → (mets l).length ≤ l.length from h _ l rfl
  intro n
  induction n with
  | zero => intro l hl; rw [List.length_eq_zero_iff.1 hl]; exact Nat.le_refl _
  | succ n ih =>
    intro l hl
    have hne : l ≠ [] := fun h => by rw [h] at hl; exact absurd hl (by simp)
    have e := List.dropLast_concat_getLast hne
    have hd : l.dropLast.length = n := by rw [List.length_dropLast]; omega
    have := ih _ hd
    rw [← e, mets_snoc]
    split
    · simp; omega
    · simp; omega
theorem nrm_len (l : List Int) : (nrm l).length = l.length := by
  suffices h : ∀ n, ∀ l : List Int, l.length = n → (nrm l).length = l.length from h _ l rfl
  intro n
  induction n with
  | zero => intro l hl; rw [List.length_eq_zero_iff.1 hl]; rfl
  | succ n ih =>
    intro l hl
    have hne : l ≠ [] := fun h => by rw [h] at hl; exact absurd hl (by simp)
    have e := List.dropLast_concat_getLast hne
    have hd : l.dropLast.length = n := by rw [List.length_dropLast]; omega
    have := ih _ hd
    rw [← e, nrm_snoc]
    simp; omega

def impl_normal.f (l0 : List Int) : Option (List Int) := if okL l0 = true then some (nrm l0) else none

/-- The map of names. -/
def Nam (met : List Int) (D : DataW Unit) : Prop := Maps.size D = met.length ∧ ∀ y : Int, (Maps.has D (.int .i64 y) = met.contains y) ∧ D.atKey (.int .i64 y) (.lit (.int .i64 0)) = .lit (.int .i64 (if met.contains y then met.idxOf y else (0 : Int)))
theorem Nam.nil : Nam [] (.map []) := ⟨rfl, fun _ => ⟨rfl, rfl⟩⟩
theorem Nam.snoc {met : List Int} {D : DataW Unit} (h : Nam met D) (hD : Maps.Tidy D) (x : Int) (hx : met.contains x = false) : Nam (met ++ [x]) (D.put (.int .i64 x) (.lit (.int .i64 (met.length : Int)))) := by
  refine ⟨?_, fun y => ?_⟩
  · rw [Maps.size_put hD, (h.2 x).1, hx, h.1]; simp
  · by_cases e : y = x
    · subst e
      refine ⟨?_, ?_⟩
      · rw [Maps.has_put_same hD.isMap (show WideAt.IsKeyLit (.int .i64 y) from trivial)]; simp
      · rw [Maps.atKey_put_same hD.isMap (show WideAt.IsKeyLit (.int .i64 y) from trivial)]
        have : ¬ y ∈ met := by simpa using hx
        simp [List.idxOf_append, this]
    · have hne : (Lit.int .i64 y) ≠ .int .i64 x := fun h => e (by injection h)
      refine ⟨?_, ?_⟩
      · rw [Maps.has_put_other hne, (h.2 y).1]; simp [e]
      · rw [Maps.atKey_put_other hne, (h.2 y).2]
        by_cases hm : y ∈ met
        · simp [List.idxOf_append, hm]
        · simp [hm, e]

theorem R_keep {w w1 : World} {base : Nat} {v : Value} {xs : List Int} {e b : Nat} (h : Kd.R (Kd.int .i64) e w base (fun k => k ≠ b) v xs) (hg : w.grownBy w1 (some b)) : Kd.R (Kd.int .i64) e w1 base (fun k => k ≠ b) v xs :=
  Kd.R_mono (Kd.R_move (Kd.R_bound h) (fun k hk => hg.block k hk.2.2.1 (by intro e; injection e with e; exact hk.1 e))) (fun _ hk => hk.1)
theorem R_neb {w : World} {base : Nat} {v : Value} {xs : List Int} {e b : Nat} (h : Kd.R (Kd.int .i64) e w base (fun k => k ≠ b) v xs) : some b ≠ v.ownBlock := by
  intro e
  exact h.1 b e.symm rfl
theorem info_i64 : (Try.prog.info? 2).map (fun i => (i.zero, i.size, i.bytes)) = some (some (.int .i64 0), 1, 8) := by kernel_rfl

set_option maxHeartbeats 8000000 in
set_option maxRecDepth 100000 in
theorem impl_normal.calls (A0 : Option Addr) (c0 : Nat) (l0 : List Int) (r : List Int) (w : World) (hr0 : Kd.C (Kd.int .i64) w A0 l0.length l0) (hc0 : l0.length ≤ c0) (h : impl_normal.f l0 = some r) :
    Calls Try.prog 105 #[.slice A0 l0.length c0] w fun e w' => ∃ v0_ : Value, e = .returned (v0_) ∧ Kd.R (Kd.int .i64) 2 w' w.heap.size (fun _ => True) v0_ r ∧ Below w.heap.size w w' := by
  have HR0 := Aside0.mk hr0
  have HC0 := Aside0.mk hc0
  clear hr0 hc0
  have HF : okL l0 = true := by
    unfold impl_normal.f at h
    by_cases hk : okL l0 = true
    · exact hk
    · rw [if_neg hk] at h; exact absurd h (by simp)
  have HR : r = nrm l0 := by
    unfold impl_normal.f at h
    rw [if_pos HF] at h
    exact (Option.some.inj h).symm
  have HL := okL_len HF
  have HW := Aside0.mk (okL_wf HF)
  have HRR := Aside0.mk HR
  clear HF HR h
  have hmm := @run_makeMap Try.prog
  have law := int_keyed (P := Try.prog) Try.underlying2
  have zer : ∀ W : World, (zeroValue 2).run Try.prog W = .ok (.int .i64 0) W := fun W => by kernel_rfl
  have LAW := Aside0.mk law
  have ZER := Aside0.mk zer
  clear law zer
  go_enter Try.func105, Try.ntmps105
  go_wp2_with (first | ((with_reducible refine gate_dst (N := 10) rfl ?_); refine Kd.R_lit (Kd.int .i64) (w0 := w) w.heap.size 2 ?hg (N := 10) ?hd (xs := ([] : List Int)) (inner := []) (ok := fun k => k ≠ w.heap.size) (okp := fun _ => False) ?hr ?hp (fun _ hk => hk.elim) (by simp) ((Below.refl _ _).alloc (Nat.le_refl _) _) (by simp) (by simp) ?_; (case hd => rfl); (case hg => rfl); (case hr => first | (go_simp; done) | (go_simp; rfl)); (case hp => exact (Reps.none _ _)); intro v1 w2 ho3 hb hg_ hnew_; have HO0 := Aside0.mk ho3; have HM0 := Aside0.mk ((World.ownsMap_made w Try.prog 2 (plainElem (H := Unit) Try.prog 2)).kept hg_ (by simp)); have HB0 := Aside0.mk (((Below.refl w.heap.size w).alloc (Nat.le_refl _) _).grown hg_ (by simp) (fun j hj => by cases hj)); have HS0 := Aside0.mk (show w.heap.size + 1 ≤ w2.heap.size from by have := hg_.size; simpa using this); clear ho3 hb hg_ hnew_))
  go_loopw [4, 13] (fun v i wr => ∃ (x : Int) (D : DataW Unit), i = .int .i64 x ∧ Aside0 (0 ≤ x ∧ x ≤ l0.length) ∧ Aside0 (wr.ownsMap Try.prog 2 (plainElem Try.prog 2) w.heap.size x.toNat D) ∧ Aside0 (Nam (mets (l0.take x.toNat)) D) ∧ Aside0 (Kd.R (Kd.int .i64) 2 wr w.heap.size (fun k => k ≠ w.heap.size) v (nrm (l0.take x.toNat))) ∧ Aside0 (Below w.heap.size w wr) ∧ Aside0 (w.heap.size + 1 ≤ wr.heap.size))
    (fun _ i _ => l0.length - (intOf i).toNat)
  case atStart => exact ⟨0, .map [], rfl, ⟨by omega, by omega⟩, HM0, ⟨Nam.nil⟩, HO0, HB0, HS0⟩
  case round =>
    clear HO0 HM0 HB0 HS0
    obtain ⟨x, D, rfl, HX, HM, HN, HO, HB, HS⟩ := hrel
    by_cases hlt : x < (l0.length : Int)
    · have p0 : 0 ≤ x := HX.out.1
      obtain ⟨ad, ead, hcell⟩ := Kd.at_int HR0.out x p0 hlt
      cases ead
      replace hcell := (HB.out.cell (World.block_lt_of_cell? w _ hcell)).trans hcell
      have hkey : keyOf Try.prog 2 (.int .i64 (rd l0 x)) = some (.int .i64 (rd l0 x)) := keyOf_int_mk Try.underlying2 (HW.out _ (rd_mem p0 hlt))
      have HX1 := Aside0.mk hlt
      have HX0 := Aside0.mk p0
      have q0 := eq_true p0
      have q1 := eq_true hlt
      have W1 := Aside0.mk (show wrap64 (x + 1) = x + 1 from by unfold wrap64; omega)
      have LT := Aside0.mk (take_rd p0 hlt)
      have LM := Aside0.mk (show (mets (l0.take x.toNat)).length ≤ l0.length from by have h1 := mets_le (l0.take x.toNat); have h2 := List.length_take_le' x.toNat l0; omega)
      have LL := Aside0.mk (show ((nrm (l0.take x.toNat)).length + 1) * 8 ≤ 140737488355328 from by rw [nrm_len]; have h2 := List.length_take_le' x.toNat l0; omega)
      have hkx : x.toNat < maxLen := by unfold maxLen; omega
      have HKX := Aside0.mk hkx
      clear p0 hlt hkx
      cases hm : (mets (l0.take x.toNat)).contains (rd l0 x) with
      | true =>
        have hh : Maps.has D (.int .i64 (rd l0 x)) = true := by rw [(HN.out.2 _).1]; exact hm
        have HMM := Aside0.mk hm
        clear hm
        go_wp2_with (first
          | (at_lookup; refine wpList_lookup_own_ok_int _ rfl _ _ 87 rfl 2 2 .i64 LAW.out Try.underlying87 Try.underlying2 (ZER.out _) w.heap.size x.toNat _ rfl HM.out _ _ rfl hkey ?_; intro c hat hwc; have HAT := Aside0.mk hat; clear hat hwc)
          | (at_builtin; refine Kd.R_append (Kd.int .i64) (w0 := w) w.heap.size rfl (.tmp 30) (.tmp 32) 22 2 (.int .i64 0) 8 rfl Try.underlying22 info_i64 rfl (by decide) (by omega) u4 (nrm (l0.take x.toNat)) c [.int .i64 c] (fun k => k ≠ w.heap.size) (fun _ => False) rfl rfl rfl (fun _ hk => hk.elim) (fun k hk => by have := HS.out; omega) HO.out HB.out (by have := HS.out; omega) LL.out ?_; intro v9 w9 ho hb hg hat; have HO9 := Aside0.mk ho; have HB9 := Aside0.mk hb; have HM9 := Aside0.mk (HM.out.kept hg (R_neb HO.out)); have HS9 := Aside0.mk (Nat.le_trans HS.out hg.size); clear ho hb hg hat))
        go_roundw
        case rel =>
          refine ⟨x + 1, D, by rw [W1.out], ⟨by have := HX0.out; omega, by have := HX1.out; omega⟩, ⟨?_⟩, ⟨?_⟩, ⟨?_⟩, HB9, HS9⟩
          · rw [show (x + 1).toNat = x.toNat + 1 from by have := HX0.out; omega]; exact HM9.out.mono (Nat.le_succ _)
          · rw [LT.out, mets_snoc, HMM.out]; exact HN.out
          · rw [LT.out, nrm_snoc, HMM.out]
            have e := HAT.out
            rw [(HN.out.2 _).2, HMM.out] at e
            injection e with e
            injection e with _ e
            rw [if_pos rfl] at e ⊢
            rw [e]
            exact HO9.out
        case measure => rw [W1.out]; have := HX0.out; have := HX1.out; simp [intOf]; omega
      | false =>
        have hh : Maps.has D (.int .i64 (rd l0 x)) = false := by rw [(HN.out.2 _).1]; exact hm
        have HMM := Aside0.mk hm
        clear hm
        have HSD := Aside0.mk (show (Lit.int .i64 (Maps.size D : Int)).wf = true from WalkArith.wf_i64 (by have := HN.out.1; have := LM.out; omega))
        go_wp2_with (first
          | (at_lookup; refine wpList_lookup_own_ok_int _ rfl _ _ 87 rfl 2 2 .i64 LAW.out Try.underlying87 Try.underlying2 (ZER.out _) w.heap.size x.toNat _ rfl HM.out _ _ rfl hkey ?_; intro c hat hwc; clear hat hwc)
          | (at_len; refine wpList_len_own _ rfl _ _ rfl 2 2 Try.underlying87 _ w.heap.size x.toNat _ rfl HM.out ?_)
          | (at_mapUpdate; refine wpList_mapUpdate_own _ rfl _ _ _ 87 rfl 2 2 LAW.out Try.underlying87 _ w.heap.size x.toNat _ rfl HM.out HKX.out _ _ _ rfl rfl hkey _ [] (plainElem_int Try.underlying2 HSD.out) ?_; intro w1 hown1 hgrow1; have HM1 := Aside0.mk hown1; have HO1 := Aside0.mk (R_keep HO.out hgrow1); have HB1 := Aside0.mk (HB.out.grown hgrow1 HB.out.size (fun j hj => by cases hj; exact Nat.le_refl _)); have HS1 := Aside0.mk (Nat.le_trans HS.out hgrow1.size); clear hown1 hgrow1)
          | (at_builtin; refine Kd.R_append (Kd.int .i64) (w0 := w) w.heap.size rfl (.tmp 30) (.tmp 32) 22 2 (.int .i64 0) 8 rfl Try.underlying22 info_i64 rfl (by decide) (by omega) u4 (nrm (l0.take x.toNat)) (Maps.size D : Int) [.int .i64 (Maps.size D : Int)] (fun k => k ≠ w.heap.size) (fun _ => False) rfl rfl rfl (fun _ hk => hk.elim) (fun k hk => by have := HS1.out; omega) HO1.out HB1.out (by have := HS1.out; omega) LL.out ?_; intro v9 w9 ho hb hg hat; have HO9 := Aside0.mk ho; have HB9 := Aside0.mk hb; have HM9 := Aside0.mk (HM1.out.kept hg (R_neb HO1.out)); have HS9 := Aside0.mk (Nat.le_trans HS1.out hg.size); clear ho hb hg hat))
        go_roundw
        case rel =>
          refine ⟨x + 1, D.put (.int .i64 (rd l0 x)) (.lit (.int .i64 (Maps.size D : Int))), by rw [W1.out], ⟨by have := HX0.out; omega, by have := HX1.out; omega⟩, ⟨?_⟩, ⟨?_⟩, ⟨?_⟩, HB9, HS9⟩
          · rw [show (x + 1).toNat = x.toNat + 1 from by have := HX0.out; omega]; exact HM9.out
          · rw [LT.out, mets_snoc, HMM.out, HN.out.1]
            exact HN.out.snoc (HM.out.tidy LAW.out) _ HMM.out
          · rw [LT.out, nrm_snoc, HMM.out, ← HN.out.1]
            exact HO9.out
        case measure => rw [W1.out]; have := HX0.out; have := HX1.out; simp [intOf]; omega
    · have q1 := eq_false hlt
      have HXE := Aside0.mk (show x.toNat = l0.length from by have := HX.out; omega)
      clear hlt
      go_wp2
      go_ret
      refine ⟨_, rfl, ?_, HB.out⟩
      rw [HRR.out]
      have h := HO.out
      rw [HXE.out, List.take_length] at h
      exact Kd.R_mono h (fun _ _ => trivial)

end Go.Proofs.Ytfijnlbkflmkbaa.F
