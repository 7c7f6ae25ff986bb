/- What laws_FnExactSharesOf answers, and that the Go text comes to it: for every world in which the arguments read as told. -/
import Derived.Test.YtfijnlbkflmkbaaFgA
import Derived.Test.YtfijnlbkflmkbaaFx50
import Derived.Test.YtfijnlbkflmkbaaFx51
import Derived.Test.YtfijnlbkflmkbaaFx52
import Derived.Test.YtfijnlbkflmkbaaFx53
import Derived.Test.YtfijnlbkflmkbaaFx54
import Derived.Test.YtfijnlbkflmkbaaPureMem
import Derived.Test.YtfijnlbkflmkbaaPureShares
import Derived.Test.YtfijnlbkflmkbaaPureD
import Derived.Test.YtfijnlbkflmkbaaPureMarkSS
namespace Go.Proofs.Ytfijnlbkflmkbaa.F
open Go.RowKit Go.Proofs.YtfijnlbkflmkbaaW.PrintWords Go.Proofs.YtfijnlbkflmkbaaW.PrintLast Go.Proofs.YtfijnlbkflmkbaaW.PrintMore
attribute [local go_sem] max2_int min2_int max_two min_two max_three min_three max_four min_four   -- for this text's walks alone
set_option linter.unusedVariables false
set_option linter.unusedSimpArgs false

/-! ### laws_FnExactSharesOf: function 13 (by hand) -/
open Go.Proofs.Ytfijnlbkflmkbaa.Mem Go.Proofs.Ytfijnlbkflmkbaa.Pure
/-- Reference and program come to the same list of rows, and to the same code. -/
def laws_FnExactSharesOf.Pure : Prop := ∀ (l0 : List Int), (∀ x ∈ l0, (Lit.int .i64 x).wf = true) → ∃ (v : List (List Int)) (c : Int), Ev (fun k => spec_SharesOf.f k l0) (v, c) ∧ Ev (fun k => impl_SharesOf.f k l0) (v, c) ∧ v.length ≤ 1000000 ∧ ∀ r ∈ v, r.length ≤ 1000
set_option maxHeartbeats 8000000 in
set_option maxRecDepth 100000 in
theorem laws_FnExactSharesOf.returns (l0 : List Int) (v : List (List Int)) (c : Int) (hS : Ev (fun k => spec_SharesOf.f k l0) (v, c)) (hI : Ev (fun k => impl_SharesOf.f k l0) (v, c)) (hv : v.length ≤ 1000000) (hr : ∀ r ∈ v, r.length ≤ 1000) (A0 : Option Addr) (c0 : Nat) (w : World) (hr0 : Kd.C (Kd.int .i64) w A0 l0.length l0) (hc0 : l0.length ≤ c0) :
    Calls Try.prog 13 #[.slice A0 l0.length c0] w fun e w' => e = .returned (.bool true) ∧ Below w.heap.size w w' := by
  have HR0 := Aside0.mk hr0
  have HC0 := Aside0.mk hc0
  by_cases hb : (l0.length : Int) > 1048576
  · have t1 : decide ((l0.length : Int) > 1048576) = true := decide_eq_true hb
    clear hS hI
    go_enter Try.func13, Try.ntmps13
    go_wp2
    go_ret
    exact ⟨rfl, Below.refl _ _⟩
  have t1 : decide ((l0.length : Int) > 1048576) = false := decide_eq_false hb
  obtain ⟨k1, e1⟩ := Ev.rounds (toS_ev l0 (by omega))
  obtain ⟨k2, e2⟩ := Ev.rounds hS
  obtain ⟨k3, e3⟩ := Ev.rounds hI
  obtain ⟨k4, e4⟩ := Ev.rounds (eqSS_ev v v (by omega) (fun r h => by have := hr r h; omega))
  obtain ⟨k5, e5⟩ := Ev.rounds (eqS_ev l0 l0 (by omega))
  obtain ⟨k6, e6⟩ := Ev.rounds (mark_ev l0 (by omega))
  obtain ⟨k7, e7⟩ := Ev.rounds (markSS_ev v hv hr)
  obtain ⟨k8, e8⟩ := Ev.rounds (heldSS_ev v hv hr)
  rw [decide_eq_true rfl] at e4 e5
  have E1 := Aside0.mk e1
  have E2 := Aside0.mk e2
  have E3 := Aside0.mk e3
  have E4 := Aside0.mk e4
  have E5 := Aside0.mk e5
  have HV := Aside0.mk hv
  obtain ⟨M, hM⟩ : ∃ M, M = markSS 1 v := ⟨_, rfl⟩
  obtain ⟨T, hT⟩ : ∃ T : Int, T = ((1 + total v : Nat) : Int) := ⟨_, rfl⟩
  obtain ⟨T0, hT0⟩ : ∃ T : Int, T = ((1 + l0.length : Nat) : Int) := ⟨_, rfl⟩
  rw [← hT0] at e6
  rw [← hM, ← hT] at e7
  rw [← hM, ← hT] at e8
  have E6 := Aside0.mk e6
  have E7 := Aside0.mk e7
  have E8 := Aside0.mk e8
  have HM := Aside0.mk hM
  have HML := Aside0.mk (show M.length = v.length from by rw [hM, markSS_len])
  have hT1 : decide (T < 0) = false := decide_eq_false (by omega)
  have hT2 : decide (T0 < 0) = false := decide_eq_false (by omega)
  have hT3 : decide (T = T) = true := decide_eq_true rfl
  have HT := Aside0.mk hT
  have HT0 := Aside0.mk hT0
  clear hS hI hv hr hM hT hT0 e1 e2 e3 e4 e5 e6 e7 e8 hr0 hc0
  go_enter Try.func13, Try.ntmps13
  go_wp2_with fail
  refine (laws_toInt64S.calls k1 A0 c0 l0 l0 _ HR0.out HC0.out E1.out).mono ?_
  rintro e w1 ⟨v1, rfl, ho1, hb1⟩
  obtain ⟨A1, c1, rfl, hl1, hC1⟩ := Kd.R_reads ho1
  have HB1 := Aside0.mk hb1
  have HL1 := Aside0.mk hl1
  have HC1 := Aside0.mk hC1
  clear ho1 hb1 hl1 hC1
  go_wp2_with fail
  refine (spec_SharesOf.calls k2 A1 c1 l0 v c _ HC1.out HL1.out E2.out).mono ?_
  rintro e w2 ⟨v2, rfl, ho2, hb2⟩
  obtain ⟨Aw, cw, rfl⟩ := Kd.S_slice ho2
  have HFW := Aside0.mk (Kd.N_F (Kd.S_N ho2))
  have HCW := Aside0.mk (Kd.S_reads' ho2).2.1
  have HB2 := Aside0.mk (below_step HB1.out hb2)
  clear ho2 hb2 HB1 HL1 HC1
  go_wp2_with fail
  refine (laws_toInt64S.calls k1 A0 c0 l0 l0 _ (Kd.C_below HR0.out HB2.out) HC0.out E1.out).mono ?_
  rintro e w3 ⟨v3, rfl, ho3, hb3⟩
  obtain ⟨A3, c3, rfl, hl3, hC3⟩ := Kd.R_reads ho3
  have HO3 := Aside0.mk ho3
  have HB3 := Aside0.mk hb3
  have HL3 := Aside0.mk hl3
  have HC3 := Aside0.mk hC3
  clear ho3 hb3 hl3 hC3
  go_wp2_with fail
  refine (impl_SharesOf.calls k3 A3 c3 l0 v c _ HC3.out HL3.out E3.out).mono ?_
  rintro e w4 ⟨v4, rfl, ho4, hb4⟩
  obtain ⟨Ag, cg, rfl⟩ := Kd.S_slice ho4
  have HO4 := Aside0.mk (Kd.S_mono (ok' := fun k => w3.heap.size ≤ k) (Kd.S_bound ho4) (fun k hk => hk.2.1))
  have HB34 := Aside0.mk hb4
  have HB4 := Aside0.mk (below_step HB3.out hb4)
  clear ho4 hb4
  go_wp2_with fail
  refine (laws_eqInt64SS.calls k4 Ag cg v Aw cw v true _ (Kd.S_reads' HO4.out).2.2 (Kd.S_reads' HO4.out).2.1 (Kd.F_now (Kd.F_below HFW.out HB4.out)) HCW.out E4.out).mono ?_
  rintro e w5 ⟨rfl, hd5⟩
  have HB45 := Aside0.mk hd5.below
  have HB5 := Aside0.mk (below_step HB4.out HB45.out)
  clear hd5
  go_wp2_with fail
  refine (laws_toInt64S.calls k1 A0 c0 l0 l0 _ (Kd.C_below HR0.out (below_step HB2.out HB5.out)) HC0.out E1.out).mono ?_
  rintro e w6 ⟨v6, rfl, ho6, hb6⟩
  obtain ⟨A6, c6, rfl, hl6, hC6⟩ := Kd.R_reads ho6
  have HB46 := Aside0.mk (below_step HB45.out hb6)
  have HL6 := Aside0.mk hl6
  have HC6 := Aside0.mk hC6
  clear ho6 hb6 hl6 hC6
  go_wp2_with fail
  refine (laws_eqInt64S.calls k5 A3 c3 l0 A6 c6 l0 true _ (Kd.C_below HC3.out (below_step HB34.out HB46.out)) HL3.out HC6.out HL6.out E5.out).mono ?_
  rintro e w7 ⟨rfl, hd7⟩
  have HB47 := Aside0.mk (below_step HB46.out hd7.below)
  clear hd7 HL6 HC6 HB46
  go_wp2_with fail
  refine (laws_markInt64S.calls k6 (fun k_ => some k_ = (Value.slice A3 l0.length c3).ownBlock) _ l0 1 T0 _ w2 _ (below_step HB4.out HB47.out) (Kd.R_below (Kd.R_tight rfl HO3.out) (below_step HB34.out HB47.out)) E6.out).mono ?_
  rintro e w8 ⟨rfl, hy8, hb8, hk8⟩
  have HB8 := Aside0.mk hb8
  have HO8 := Aside0.mk (Kd.S_kept (Kd.S_below HO4.out HB47.out) hk8 (fun k hok hs => by have := Kd.R_lt HO3.out k hs.symm; omega))
  clear hy8 hb8 hk8
  go_wp2_with fail
  refine (laws_eqInt64SS.calls k4 Ag cg v Aw cw v true _ (Kd.S_reads' HO8.out).2.2 (Kd.S_reads' HO8.out).2.1 (Kd.F_now (Kd.F_below HFW.out HB8.out)) HCW.out E4.out).mono ?_
  rintro e w9 ⟨rfl, hd9⟩
  have HB9 := Aside0.mk (below_step HB8.out hd9.below)
  have HO9 := Aside0.mk (Kd.S_below HO8.out hd9.below)
  clear hd9
  go_wp2_with fail
  refine (laws_markInt64SS.calls k7 (fun k_ => w3.heap.size ≤ k_) _ v 1 T M w2 _ HB9.out (by have := HV.out; omega) (Kd.S_lower HO9.out HB3.out.size) E7.out).mono ?_
  rintro e w10 ⟨rfl, hs10, hb10, hk10⟩
  have HB10 := Aside0.mk hb10
  have HO10 := Aside0.mk hs10
  clear hs10 hb10 hk10
  go_wp2_with fail
  refine calls_len1 HML.out ?_
  refine (laws_heldInt64SS.calls k8 Ag cg M 1 T _ (Kd.S_reads' HO10.out).2.2 (by rw [HML.out]; exact (Kd.S_reads' HO10.out).2.1) E8.out).mono ?_
  rintro e w11 ⟨rfl, hd11⟩
  have HB1011 := Aside0.mk hd11.below
  have HB11 := Aside0.mk (below_step HB10.out hd11.below)
  clear hd11
  go_wp2_with fail
  refine (laws_toInt64S.calls k1 A0 c0 l0 l0 _ (Kd.C_below HR0.out (below_step HB2.out HB11.out)) HC0.out E1.out).mono ?_
  rintro e w12 ⟨v12, rfl, ho12, hb12⟩
  obtain ⟨A12, c12, rfl, hl12, hC12⟩ := Kd.R_reads ho12
  have HB12 := Aside0.mk (below_step HB1011.out hb12)
  have HL12 := Aside0.mk hl12
  have HC12 := Aside0.mk hC12
  clear ho12 hb12 hl12 hC12
  go_wp2_with fail
  refine (impl_SharesOf.calls k3 A12 c12 l0 v c _ HC12.out HL12.out E3.out).mono ?_
  rintro e w13 ⟨v13, rfl, ho13, hb13⟩
  obtain ⟨Ah, ch, rfl⟩ := Kd.S_slice ho13
  have HO13 := Aside0.mk ho13
  have HB13 := Aside0.mk (below_step HB12.out hb13)
  clear ho13 hb13 HL12 HC12
  go_wp2_with fail
  refine (laws_eqInt64SS.calls k4 Ah ch v Aw cw v true _ (Kd.S_reads' HO13.out).2.2 (Kd.S_reads' HO13.out).2.1 (Kd.F_now (Kd.F_below HFW.out (below_step HB10.out HB13.out))) HCW.out E4.out).mono ?_
  rintro e w14 ⟨rfl, hd14⟩
  have HB14 := Aside0.mk (below_step HB13.out hd14.below)
  clear hd14
  go_wp2_with fail
  refine calls_len1 HML.out ?_
  refine (laws_heldInt64SS.calls k8 Ag cg M 1 T _ (Kd.S_reads' (Kd.S_below HO10.out HB14.out)).2.2 (by rw [HML.out]; exact (Kd.S_reads' HO10.out).2.1) E8.out).mono ?_
  rintro e w15 ⟨rfl, hd15⟩
  have HB15 := Aside0.mk (below_step HB2.out (below_step HB10.out (below_step HB14.out hd15.below)))
  clear hd15
  go_wp2
  go_ret
  exact ⟨rfl, HB15.out⟩
theorem laws_FnExactSharesOf.walk (P : laws_FnExactSharesOf.Pure) (a0 : Option Addr) (len0 cap0 : Nat) (z0 : List Int) (w : World) (w0 : (a0 = none ∧ len0 = 0 ∧ cap0 = 0 ∧ z0 = []) ∨ ∃ x, a0 = some x ∧ len0 ≤ cap0 ∧ cap0 ≤ maxLen ∧ z0.length = cap0 ∧ (∀ i, i < z0.length → w.cell? (x.add i) = some (.int .i64 (z0.getD i 0))) ∧ ∀ n ∈ z0, (Lit.int .i64 n).wf = true) (y0 : len0 * 8 ≤ 140737488351232) :
    Calls Try.prog 13 #[.slice a0 len0 cap0] w fun e w' => e = .returned (.bool true) ∧ Below w.heap.size w w' := by
  obtain ⟨l0, rfl, hr0, hm0, hw0, hc0⟩ := ReadsInt.ofRowC w0
  obtain ⟨v, c, hS, hI, hv, hr⟩ := P l0 hw0
  exact laws_FnExactSharesOf.returns l0 v c hS hI hv hr _ _ w (Kd.C_of_reads (d := (0 : Int)) (h1 := fun _ => rfl) hr0) hc0

end Go.Proofs.Ytfijnlbkflmkbaa.F
