/- Words, walks and plain laws that the row of the law FnExactValueOfInterlace uses. -/
import Derived.Test.YtcnekpdoldljgaaZFnExactValueOfInterlace3
import Derived.BigQuiet
import Derived.Deep.RegionWith
import Derived.Deep.RegionLawGrows
import Derived.RangeFuncBox
import Derived.RangeFuncLeaves
import Derived.RangeFuncNested
import Derived.RangeFuncBound
import Derived.RangeFuncCalls
import Derived.Shelf.Abstract
import Derived.Shelf.RegionOpen
import Derived.WalkKit
import Derived.OwnWalkIn
import Derived.TacticsInMore
import Derived.LoopNIn
import Derived.LoopIn
section
namespace Go.Proofs.Ytcnekpdoldljgaa.F
open Go.RowKit Go.Proofs.YtcnekpdoldljgaaW.PrintWords Go.Proofs.YtcnekpdoldljgaaW.PrintLast Go.Proofs.YtcnekpdoldljgaaW.PrintMore
attribute [local go_sem] max2_int min2_int max_two min_two max_three min_three max_four min_four   
set_option linter.unusedVariables false
set_option linter.unusedSimpArgs false
open Go.Proofs.Ytcnekpdoldljgaa.ORows Go.Proofs.Ytcnekpdoldljgaa.Red Go.Proofs.Ytcnekpdoldljgaa.Mem
theorem inverse_one : impl_inverse.f 5 1 2 = some 1 := by kernel_rfl
theorem wS_r {n : Nat} (h : n < 4611686018427387904) : wrap64 ((n : Int) + 1) = ((n + 1 : Nat) : Int) := by unfold wrap64; omega
theorem bit_times {x : Int} (h : x = 0 ∨ x = 1) : Int.tmod (wrap64 (x * 1)) 2 = x := by
 have e : wrap64 (x * 1) = x := by unfold wrap64; omega
 rw [e]
 rcases h with rfl | rfl <;> rfl
set_option maxHeartbeats 16000000 in
set_option maxRecDepth 100000 in
theorem reduced_walk (n : Nat) (hn : n ≤ 12) (bs : List (Nat × Nat)) (h12 : bs.length ≤ 12) (hnd : (bs.map Prod.fst).Nodup) (F : Nat → List Int) (W0 w : World) (A : Option Addr) (c : Nat) (hB : Below W0.heap.size W0 w)
  (hL : (kE n).R 24 w W0.heap.size (fun _ => True) (.slice A bs.length c) bs) (hO : Go.Proofs.Ytcnekpdoldljgaa.ORows.Own n W0.heap.size F bs w) (hne : ∀ p ∈ bs, some p.1 ≠ (Value.slice A bs.length c).ownBlock) (hok : RedOk F bs) :
  Calls Try.prog 176 #[.slice A bs.length c, .int .i64 2] w fun e w' => ∃ A' c', e = .returned (.slice A' (redAt F bs bs.length).2.length c') ∧ Below W0.heap.size W0 w' := by
 obtain ⟨N0, hN0⟩ : ∃ N0, N0 = w.heap.size := ⟨_, rfl⟩
 have hlst : Kd.F (kE n) w (fun k => k < N0 ∧ ∀ p ∈ bs, p.1 ≠ k) A bs.length bs := Kd.F_mono (Kd.F_bound (Kd.R_F (Kd.R_tight rfl hL))) (fun k hk => ⟨by rw [hN0]; exact hk.2, fun p hp e => hne p hp (by rw [e]; exact hk.1)⟩)
 have hlow : ∀ p ∈ bs, p.1 < N0 := fun p hp => by rw [hN0]; exact (hO.row p hp).lt
 have HLST := Aside0.mk hlst
 have HLOW := Aside0.mk hlow
 have HO := Aside0.mk hO
 have HB := Aside0.mk hB
 have HN0 := Aside0.mk hN0
 have HN := Aside0.mk hn
 have H12 := Aside0.mk h12
 have HND := Aside0.mk hnd
 have HOK := Aside0.mk hok
 clear hlst hlow hL hO hne hok hB hN0 hn h12 hnd
 go_enter Try.func176, Try.ntmps176
 go_wp2_with (first
  | ((with_reducible refine gate_dst (N := 15) rfl ?_); refine Kd.R_lit (kE n) (w0 := W0) W0.heap.size 24 ?hg (N := 15) ?hd (xs := ([] : List (Nat × Nat))) (inner := []) (ok := fun _ => True) (okp := fun _ => False) ?hr ?hp (fun _ hk => hk.elim) trivial HB.out HB.out.size (by simp) ?_; (case hd => rfl); (case hg => rfl); (case hr => first | (go_simp; done) | (go_simp; rfl)); (case hp => exact (Reps.none _ _)); intro v1 w1 ho hb hg_ hnew_; have HI1 := Aside0.mk (show RInv n N0 W0 bs A F v1 [] w1 from by
    obtain ⟨b, hb1, hb2⟩ := hnew_
    refine ⟨HO.out.grown hg_ (fun _ _ e => by cases e), Kd.F_grown HLST.out hg_ (fun _ _ e => by cases e), ⟨b, hb1, by rw [HN0.out]; exact hb2, Kd.R_mono (Kd.R_tight rfl ho) (fun k hk => by rw [hb1] at hk; exact Option.some.inj hk)⟩, hb, HLOW.out, by rw [HN0.out]; exact hg_.size⟩); clear ho hb hg_ hnew_))
 go_loopw [18, 5] (fun i out wr => ∃ x : Nat, i = .int .i64 (x : Int) ∧ Aside0 (x ≤ bs.length) ∧ Aside0 (RInv n N0 W0 bs A (redAt F bs x).1 out (redAt F bs x).2 wr))
  (fun i _ _ => bs.length - (intOf i).toNat)
 case atStart => exact ⟨0, rfl, ⟨Nat.zero_le _⟩, ⟨by first | exact HI1.out | exact HI1.out.drewN _ | exact (HI1.out.drewN _).drewN _⟩⟩
 case round =>
  obtain ⟨x, rfl, HX, HI⟩ := hrel
  obtain ⟨Ao, co, rfl⟩ : ∃ Ao co, u5 = .slice Ao (redAt F bs x).2.length co := by
   obtain ⟨g, _, _, hr⟩ := HI.out.out
   exact Kd.R_slice hr
  by_cases hlt : x < bs.length
  rotate_left
  ·have t1 : decide ((x : Int) < (bs.length : Int)) = false := decide_eq_false (by omega)
   have t2 : decide (x < bs.length) = false := decide_eq_false hlt
   have hxe : x = bs.length := by have := HX.out; omega
   rw [hxe] at HI ⊢
   obtain ⟨g, hg1, hg2, hg3⟩ := HI.out.out
   obtain ⟨ad, rfl⟩ : ∃ ad, Ao = some ad := by
    cases Ao with
    | none => cases hg1
    | some ad => exact ⟨ad, rfl⟩
   obtain ⟨g', rfl⟩ := Kd.R_head hg3
   obtain rfl : g' = g := Option.some.inj hg1
   have hsub2 : ∀ p ∈ (redAt F bs bs.length).2, p ∈ bs := fun p hp => List.mem_of_mem_take ((redAt_sub F bs bs.length (Nat.le_refl _)).1 p hp)
   have hlen2 : (redAt F bs bs.length).2.length ≤ 12 := Nat.le_trans (redAt_sub F bs bs.length (Nat.le_refl _)).2 H12.out
   have HSORT := Aside0.mk (sort_rows n bs (redAt F bs bs.length).1 W0.heap.size W0.heap.size _ wr HI.out.own (by have := HN.out; omega) g' co _ hsub2 hg3 hlen2 (fun p hp e => by have := HI.out.low p hp; omega))
   have HGB := Aside0.mk (show W0.heap.size ≤ g' from by have := HB.out.size; have := HN0.out; omega)
   obtain ⟨L, hL⟩ : ∃ L, L = (redAt F bs bs.length).2.length := ⟨_, rfl⟩
   rw [← hL] at HSORT ⊢
   have HL := Aside0.mk hL
   clear hg1 hg2 hg3 hsub2 hlen2 hL hxe
   go_wp2_with (first | (go_at_call 191; refine HSORT.out.mono ?_; rintro e w3 ⟨rfl, hg3⟩; have HG3 := Aside0.mk hg3; clear hg3))
   first | go_end0 | go_ret
   refine ⟨some ⟨g', 0, none⟩, co, by rw [← HL.out]; rfl, ?_⟩
   exact (HI.out.bel.grown HG3.out HI.out.bel.size (fun j hj => by cases hj; exact HGB.out))
  have t1 : decide ((x : Int) < (bs.length : Int)) = true := decide_eq_true (by omega)
  have t2 : decide (x < bs.length) = true := decide_eq_true hlt
  obtain ⟨ad, ead, hcell⟩ := cell_of_E (Kd.F_now HI.out.lst) x hlt
  subst ead
  obtain ⟨b, cb, hbc⟩ : ∃ b cb, bs.getD x (0, 0) = (b, cb) := ⟨_, _, rfl⟩
  have hmem : (b, cb) ∈ bs := by rw [← hbc, List.getD_eq_getElem?_getD, List.getElem?_eq_getElem hlt]; exact List.getElem_mem hlt
  have hSO := HOK.out x hlt
  rw [hbc] at hcell hSO
  replace hcell : wr.cell? (ad.add x) = some (.slice (some ⟨b, 0, none⟩) n cb) := hcell
  obtain ⟨st, hst⟩ : ∃ st, redAt F bs x = st := ⟨_, rfl⟩
  have hnext : redAt F bs (x + 1) = stepF st (b, cb) := by rw [redAt_succ F bs hlt, hst, hbc]
  have hsub : ∀ q ∈ st.2, q ∈ bs ∧ q.1 ≠ b := fun q hq => by
   have := (redAt_sub F bs x (Nat.le_of_lt hlt)).1 q (by rw [hst]; exact hq)
   exact ⟨List.mem_of_mem_take this, by have h := taken_ne HND.out hlt this; rw [hbc] at h; exact h⟩
  have hlen : st.2.length ≤ 12 := by have := (redAt_sub F bs x (Nat.le_of_lt hlt)).2; rw [hst] at this; have := HX.out; have := H12.out; omega
  rw [hst] at HI hSO ⊢
  have HM := Aside0.mk hmem
  have HSO := Aside0.mk hSO
  have HNX := Aside0.mk hnext
  have HSUB := Aside0.mk hsub
  have HLEN := Aside0.mk hlen
  have HLT := Aside0.mk hlt
  clear hmem hSO hnext hsub hlen hst hbc
  obtain ⟨wo, hwo⟩ : ∃ wo, wo = wr := ⟨wr, rfl⟩
  subst hwo
  go_wp2_with fail
  go_loopw [24] (fun j wq => ∃ y : Nat, j = .int .i64 (y : Int) ∧ Aside0 (y ≤ st.2.length) ∧ Aside0 (RInv n N0 W0 bs (some ad) (absAt st b y) (.slice Ao st.2.length co) st.2 wq))
   (fun j _ => st.2.length - (intOf j).toNat)
  case atStart => exact ⟨0, rfl, ⟨Nat.zero_le _⟩, ⟨by rw [absAt_zero]; first | exact HI.out | exact HI.out.drewN _⟩⟩
  case round =>
   obtain ⟨y, rfl, HY, HJ⟩ := hrel
   by_cases hy : y < st.2.length
   ·have s1 : decide ((y : Int) < (st.2.length : Int)) = true := decide_eq_true (by omega)
    have s2 : decide (y < st.2.length) = true := decide_eq_true hy
    obtain ⟨g, hg1, hg2, hg3⟩ := HJ.out.out
    obtain ⟨ao, eao, hcell2⟩ := cell_of_E (Kd.R_reads' hg3).2.2 y hy
    subst eao
    clear hg1 hg2 hg3 g
    obtain ⟨d, m, hdm⟩ : ∃ d m, st.2.getD y (0, 0) = (d, m) := ⟨_, _, rfl⟩
    have hdmem : (d, m) ∈ st.2 := by rw [← hdm, List.getD_eq_getElem?_getD, List.getElem?_eq_getElem hy]; exact List.getElem_mem hy
    have hle := HSO.out.abs y hy
    have hst2 := absAt_succ st b hy
    rw [hdm] at hcell2 hle hst2
    replace hcell2 : wr.cell? (ao.add y) = some (.slice (some ⟨d, 0, none⟩) n m) := hcell2
    have HCALL := Aside0.mk (HJ.out.lessCall HM.out (HSUB.out _ hdmem).1 (HSUB.out _ hdmem).2 hle)
    have HS2 := Aside0.mk (show upd (absAt st b y) b (lessV (absAt st b y b) (absAt st b y d)) = absAt st b (y + 1) from hst2.symm)
    clear hdm hdmem hle hst2
    go_wp2_with (first | (go_at_call 189; refine HCALL.out.mono ?_; rintro e w3 ⟨rfl, hi3⟩; rw [HS2.out] at hi3; have HI3 := Aside0.mk hi3; clear hi3))
    go_roundw
    case rel => exact ⟨y + 1, congrArg _ (wS_r (by have := HLEN.out; omega)), ⟨hy⟩, ⟨by first | exact HI3.out | exact HI3.out.drewN _⟩⟩
    case measure => rw [wS_r (by have := HLEN.out; omega)]; simp [intOf]; omega
   have s1 : decide ((y : Int) < (st.2.length : Int)) = false := decide_eq_false (by omega)
   have s2 : decide (y < st.2.length) = false := decide_eq_false hy
   have hye : y = st.2.length := by have := HY.out; omega
   clear hy HY
   have HYE := Aside0.mk hye
   obtain ⟨F1, hF1⟩ : ∃ F1, absAt st b st.2.length = F1 := ⟨_, rfl⟩
   have hbit := HSO.out.bit
   have hstep := HNX.out
   unfold stepF at hstep
   have hspr := HSO.out.spr
   have hspz := sprAt_zero st b
   have hsps := fun j h => sprAt_succ st b (j := j) h
   rw [show ((b, cb) : Nat × Nat).1 = b from rfl, hF1] at hstep
   rw [hye, hF1] at HJ
   rw [hF1] at hbit hspr hspz
   have HFC := Aside0.mk (HJ.out.firstCall HM.out (by have := HN.out; omega))
   have hlen1 : (F1 b).length = n := (HJ.out.own.row _ HM.out).len
   obtain ⟨wb, hwb⟩ : ∃ wb, wb = wr := ⟨wr, rfl⟩
   subst hwb
   rcases firstV_at (F1 b) with hv | ⟨K, hK, hv, hnz, _⟩
   ·rw [if_pos (by rw [hv]; decide)] at hstep
    rw [hv] at HFC
    have HST := Aside0.mk hstep
    clear hstep hbit hspr hspz hsps hv hF1 hye hlen1
    go_wp2_with (first | (go_at_call 190; refine HFC.out.mono ?_; rintro e w3 ⟨rfl, ⟨nd, rfl⟩⟩))
    go_roundw
    case rel => exact ⟨x + 1, congrArg _ (wS_r (by have := H12.out; omega)), ⟨hlt⟩, ⟨by rw [HST.out]; exact HJ.out.drewN _⟩⟩
    case measure => rw [wS_r (by have := H12.out; omega)]; simp [intOf]; omega
   ·rw [if_neg (by rw [hv]; omega)] at hstep
    rw [hv] at HFC
    rw [hlen1] at hK
    have hone : (F1 b).getD K 0 = 1 := by
     rcases hbit _ (show (F1 b).getD K 0 ∈ F1 b from by rw [List.getD_eq_getElem?_getD, List.getElem?_eq_getElem (by rw [hlen1]; exact hK)]; exact List.getElem_mem _) with h | h
     ·exact absurd h hnz
     ·exact h
    have hcK := (HJ.out.cell HM.out K hK).1
    rw [hone] at hcK
    have HST := Aside0.mk hstep
    have HBIT := Aside0.mk hbit
    have HSPR := Aside0.mk (hspr (by rw [hv]; omega))
    have HSPZ := Aside0.mk hspz
    have HSPS := Aside0.mk hsps
    have HLN1 := Aside0.mk hlen1
    have s3 : decide ((K : Int) < 0) = false := decide_eq_false (by omega)
    have s4 : decide ((K : Int) < (n : Int)) = true := decide_eq_true (by omega)
    have s5 : decide (K < n) = true := decide_eq_true hK
    have HIV := Aside0.mk (fun w => impl_inverse.calls 5 1 2 1 w inverse_one)
    clear hstep hbit hspr hspz hsps hv hF1 hye hlen1 hnz hone
    go_wp2_with (first | (go_at_call 190; refine HFC.out.mono ?_; rintro e w3 ⟨rfl, ⟨nd, rfl⟩⟩) | (go_at_call 112; refine (HIV.out _).mono ?_; rintro e w3 ⟨rfl, ⟨nd2, rfl⟩⟩))
    go_loopw [45] (fun j wq => ∃ z : Nat, j = .int .i64 (z : Int) ∧ Aside0 (z ≤ n) ∧ Aside0 (RInv n N0 W0 bs (some ad) F1 (.slice Ao st.2.length co) st.2 wq))
     (fun j _ => n - (intOf j).toNat)
    case atStart => exact ⟨0, rfl, ⟨Nat.zero_le _⟩, ⟨by first | exact HJ.out.drewN _ | exact (HJ.out.drewN _).drewN _⟩⟩
    case round =>
     obtain ⟨z, rfl, HZ, HQ⟩ := hrel
     by_cases hz : z < n
     ·have r1 : decide ((z : Int) < (n : Int)) = true := decide_eq_true (by omega)
      have r2 : decide (z < n) = true := decide_eq_true hz
      obtain ⟨q, hq⟩ : ∃ q, (F1 b).getD z 0 = q := ⟨_, rfl⟩
      obtain ⟨hcz, hfz⟩ := HQ.out.cell HM.out z hz
      have hqb : q = 0 ∨ q = 1 := by
       rw [← hq]
       exact HBIT.out _ (by rw [List.getD_eq_getElem?_getD, List.getElem?_eq_getElem (by rw [HLN1.out]; exact hz)]; exact List.getElem_mem _)
      rw [hq] at hcz
      have htm := bit_times hqb
      rw [Int.mul_one] at htm
      have HTM := Aside0.mk htm
      have HSET := Aside0.mk (fun m => (HQ.out.drewN m).setSame HM.out z hz q hq)
      have HSET0 := Aside0.mk (HQ.out.setSame HM.out z hz q hq)
      clear hqb hq htm
      go_wp2_with fail
      go_roundw
      case rel => exact ⟨z + 1, congrArg _ (wS_r (by have := HN.out; omega)), ⟨hz⟩, ⟨by rw [HTM.out]; first | exact HSET0.out | exact HSET.out _ | exact HSET0.out.drewN _⟩⟩
      case measure => rw [wS_r (by have := HN.out; omega)]; simp [intOf]; omega
     have r1 : decide ((z : Int) < (n : Int)) = false := decide_eq_false (by omega)
     have r2 : decide (z < n) = false := decide_eq_false hz
     go_wp2_with fail
     go_loopw [62] (fun j wq => ∃ y : Nat, j = .int .i64 (y : Int) ∧ Aside0 (y ≤ st.2.length) ∧ Aside0 (RInv n N0 W0 bs (some ad) (sprAt st b y) (.slice Ao st.2.length co) st.2 wq))
      (fun j _ => st.2.length - (intOf j).toNat)
     case atStart => exact ⟨0, rfl, ⟨Nat.zero_le _⟩, ⟨by rw [HSPZ.out]; first | exact HQ.out | exact HQ.out.drewN _⟩⟩
     case round =>
      obtain ⟨y2, rfl, HY2, HJ2⟩ := hrel
      by_cases hy2 : y2 < st.2.length
      ·have r3 : decide ((y2 : Int) < (st.2.length : Int)) = true := decide_eq_true (by omega)
       have r4 : decide (y2 < st.2.length) = true := decide_eq_true hy2
       obtain ⟨g, hg1, hg2, hg3⟩ := HJ2.out.out
       obtain ⟨ao, eao, hcell2⟩ := cell_of_E (Kd.R_reads' hg3).2.2 y2 hy2
       subst eao
       clear hg1 hg2 hg3 g
       obtain ⟨d, m, hdm⟩ : ∃ d m, st.2.getD y2 (0, 0) = (d, m) := ⟨_, _, rfl⟩
       have hdmem : (d, m) ∈ st.2 := by rw [← hdm, List.getD_eq_getElem?_getD, List.getElem?_eq_getElem hy2]; exact List.getElem_mem hy2
       have hle := HSPR.out y2 hy2
       have hst2 := HSPS.out y2 hy2
       rw [hdm] at hcell2 hle hst2
       replace hcell2 : wr.cell? (ao.add y2) = some (.slice (some ⟨d, 0, none⟩) n m) := hcell2
       have HCALL := Aside0.mk (HJ2.out.lessCall (HSUB.out _ hdmem).1 HM.out (fun e => (HSUB.out _ hdmem).2 e.symm) hle)
       have HS2 := Aside0.mk (show upd (sprAt st b y2) d (lessV (sprAt st b y2 d) (sprAt st b y2 b)) = sprAt st b (y2 + 1) from hst2.symm)
       clear hdm hdmem hle hst2
       go_wp2_with (first | (go_at_call 189; refine HCALL.out.mono ?_; rintro e w3 ⟨rfl, hi3⟩; rw [HS2.out] at hi3; have HI3 := Aside0.mk hi3; clear hi3))
       go_roundw
       case rel => exact ⟨y2 + 1, congrArg _ (wS_r (by have := HLEN.out; omega)), ⟨hy2⟩, ⟨by first | exact HI3.out | exact HI3.out.drewN _⟩⟩
       case measure => rw [wS_r (by have := HLEN.out; omega)]; simp [intOf]; omega
      have r3 : decide ((y2 : Int) < (st.2.length : Int)) = false := decide_eq_false (by omega)
      have r4 : decide (y2 < st.2.length) = false := decide_eq_false hy2
      have hye2 : y2 = st.2.length := by have := HY2.out; omega
      rw [hye2] at HJ2
      have HAL := Aside0.mk (show (st.2.length + 1) * 24 ≤ 140737488355328 from by have := HLEN.out; omega)
      have HRO := Aside0.mk (show (kE n).R 24 wr W0.heap.size (fun _ => True) (.slice Ao st.2.length co) st.2 from by
       obtain ⟨g, _, _, h3⟩ := HJ2.out.out
       exact Kd.R_mono h3 (fun _ _ => trivial))
      go_wp2_with (first | (at_builtin; refine Kd.R_append (kE n) (w0 := W0) W0.heap.size rfl (.tmp 71) (.tmp 73) 39 24 (.slice none 0 0) 24 rfl Try.underlying39 info24 rfl (show 0 < 1 from Nat.one_pos) (by omega) (.slice Ao st.2.length co) st.2 (b, cb) [rowE n (b, cb)] (fun _ => True) (fun _ => False) rfl rfl ?aP (fun _ hk => hk.elim) ?aF ?aO ?aB ?aS ?aL ?_; (case aP => exact rfl); (case aB => exact HJ2.out.bel); (case aF => exact (fun _ _ => trivial)); (case aO => exact HRO.out); (case aS => exact HJ2.out.bel.size); (case aL => exact HAL.out); intro v5 w5 ho hb hg hat; have HI5 := Aside0.mk (HJ2.out.app ho hb hg hat); clear ho hb hg hat))
      go_roundw
      case rel => exact ⟨x + 1, congrArg _ (wS_r (by have := H12.out; omega)), ⟨hlt⟩, ⟨by rw [HST.out]; first | exact HI5.out | exact HI5.out.drewN _⟩⟩
      case measure => rw [wS_r (by have := H12.out; omega)]; simp [intOf]; omega
end Go.Proofs.Ytcnekpdoldljgaa.F
end
section
namespace Go.Proofs.Ytcnekpdoldljgaa.F
open Go.RowKit Go.Proofs.YtcnekpdoldljgaaW.PrintWords Go.Proofs.YtcnekpdoldljgaaW.PrintLast Go.Proofs.YtcnekpdoldljgaaW.PrintMore
attribute [local go_sem] max2_int min2_int max_two min_two max_three min_three max_four min_four   
set_option linter.unusedVariables false
set_option linter.unusedSimpArgs false
open Go.Proofs.Ytcnekpdoldljgaa.ORows Go.Proofs.Ytcnekpdoldljgaa.Red Go.Proofs.Ytcnekpdoldljgaa.Mem
set_option maxHeartbeats 4000000 in
set_option maxRecDepth 100000 in
theorem rank_walk (k : Nat) (l0 : List Int) (rs : List (List Int)) (n r : Nat) (A0 : Option Addr) (c0 : Nat) (w : World) (hr0 : Kd.C (Kd.int .i64) w A0 l0.length l0) (hc0 : l0.length ≤ c0) (hk : impl_rows.f k l0 = some rs) (hb : ∀ q ∈ rs, Bits q ∧ q.length = n) (hl : rs.length = n) (hn : n ≤ 12) (hr : IsRank rs r) :
    Calls Try.prog 148 #[.slice A0 l0.length c0] w fun e w' => e = .returned (.int .i64 (r : Int)) ∧ Below w.heap.size w w' := by
  have HROWS := Aside0.mk (impl_rows.calls k A0 c0 l0 rs w hr0 hc0 hk)
  have hred : ∀ (v : Value) (w1 : World), Kd.S (Kd.slice 2 (Kd.int .i64)) 24 w1 w.heap.size (fun _ => True) v rs → Below w.heap.size w w1 → ∃ A c, v = .slice A n c ∧
      Calls Try.prog 176 #[.slice A n c, .int .i64 2] w1 fun e w' => ∃ A' c', e = .returned (.slice A' r c') ∧ Below w.heap.size w w' := by
    intro v w1 hS hB
    obtain ⟨bs, F, hnd, hR, hO, hm, hne⟩ := own_rows0 hS (fun q hq => (hb q hq).2) (by
      rcases Nat.eq_zero_or_pos n with h | h
      · exact .inl (List.eq_nil_of_length_eq_zero (hl.trans h))
      · exact .inr h)
    have hbl : bs.length = n := by rw [← hl, ← hm, List.length_map]
    obtain ⟨A, c, rfl⟩ := Kd.R_slice hR
    have hbits : ∀ p ∈ bs, Bits (F p.1) ∧ (F p.1).length = n := fun p hp => hb _ (by rw [← hm]; exact List.mem_map.2 ⟨p, hp, rfl⟩)
    obtain ⟨hok, hrank⟩ := red_ok hnd (by omega) hbits
    rw [hm] at hrank
    have hw := reduced_walk n hn bs (by omega) hnd F w w1 A c hB hR hO hne hok
    rw [hrank.unique hr, hbl] at hw
    exact ⟨A, c, by rw [hbl], hw⟩
  have HRED := Aside0.mk hred
  clear hr0 hc0 hk hb hl hn hr hred
  go_enter Try.func148, Try.ntmps148
  go_wp2_with (first
    | (go_at_call 71; refine HROWS.out.mono ?_; rintro e w1 ⟨v, rfl, hS, hB⟩; obtain ⟨A1, c1, rfl, hred1⟩ := HRED.out v w1 hS hB; have HR1 := Aside0.mk hred1; clear hS hB hred1)
    | (go_at_call 176; refine HR1.out.mono ?_; rintro e w2 ⟨A2, c2, rfl, hB2⟩; have HB2 := Aside0.mk hB2; clear hB2))
  go_ret
  exact ⟨rfl, HB2.out⟩
end Go.Proofs.Ytcnekpdoldljgaa.F
end
section
namespace Go.Proofs.Ytcnekpdoldljgaa.F
open Go.RowKit Go.Proofs.YtcnekpdoldljgaaW.PrintWords Go.Proofs.YtcnekpdoldljgaaW.PrintLast Go.Proofs.YtcnekpdoldljgaaW.PrintMore
attribute [local go_sem] max2_int min2_int max_two min_two max_three min_three max_four min_four   
set_option linter.unusedVariables false
set_option linter.unusedSimpArgs false
def impl_times.l0 : Nat → Int → List Int → List Int → Int → Int → Option (List Int)
 | 0, _, _, _, _, _ => none
 | k + 1, x1, x5, x12, x13, x14 => if x14 < x13 then (if 0 ≤ x14 then (if x14 < (x12.length : Int) then (if 0 ≤ (wrap64 (x14 + 1)) then (if (wrap64 (x14 + 1)) < (x5.length : Int) then ((some (x5.set ((wrap64 (x14 + 1)) : Int).toNat (wrap64 ((rd x5 (wrap64 (x14 + 1))) + (rd x12 x14))) : List Int)).bind fun y1491006 => (if x14 < (x5.length : Int) then (impl_times.l0 k x1 (y1491006.set (x14 : Int).toNat (wrap64 ((rd y1491006 x14) - (wrap64 (x1 * (rd x12 x14)))))) x12 x13 (wrap64 (x14 + 1))) else (none))) else (none)) else (none)) else (none)) else (none)) else (some x5)
def impl_times.f (k : Nat) (l0 : List Int) (a1 : Int) : Option (List Int) := if 0 ≤ (wrap64 ((l0.length : Int) + 1)) then (if (wrap64 ((l0.length : Int) + 1) : Int).toNat ≤ 35184372088832 then (impl_times.l0 k a1 (List.replicate (wrap64 ((l0.length : Int) + 1) : Int).toNat 0) l0 (l0.length : Int) 0) else (none)) else (none)
theorem impl_times.mono_l : ∀ k, (∀ y0 y1 y2 y3 y4, LeO (impl_times.l0 k y0 y1 y2 y3 y4) (impl_times.l0 (k + 1) y0 y1 y2 y3 y4))
 | 0 => fun _ _ _ _ _ r h => by simp [impl_times.l0] at h
 | k + 1 => by
  have ih0 := impl_times.mono_l k
  ·intro y0 y1 y2 y3 y4
   unfold impl_times.l0
   repeat' first
   | (with_reducible exact ih0 _ _ _ _ _)
   | (with_reducible exact LeO.refl _)
   | (with_reducible exact LeO.none _)
   | (with_reducible refine LeO.ite ?_ ?_)
   | (with_reducible refine LeO.bind ?_ (fun _ => ?_))
   | exact ih0 _ _ _ _ _
   | exact LeO.none _
   | refine LeO.ite ?_ ?_
   | refine LeO.bind ?_ (fun _ => ?_)
theorem impl_times.mono : ∀ a0 a1 k, LeO (impl_times.f k a0 a1) (impl_times.f (k + 1) a0 a1) := by
 intro a0 a1 k
 have ih0 := impl_times.mono_l k
 unfold impl_times.f
 repeat' first
   | (with_reducible exact ih0 _ _ _ _ _)
   | (with_reducible exact LeO.refl _)
   | (with_reducible exact LeO.none _)
   | (with_reducible refine LeO.ite ?_ ?_)
   | (with_reducible refine LeO.bind ?_ (fun _ => ?_))
   | exact ih0 _ _ _ _ _
   | exact LeO.none _
   | refine LeO.ite ?_ ?_
   | refine LeO.bind ?_ (fun _ => ?_)
set_option maxHeartbeats 8000000 in
set_option maxRecDepth 100000 in
theorem impl_times.calls (k : Nat) (A0 : Option Addr) (c0 : Nat) (l0 : List Int) (a1 : Int) (r : List Int) (w : World) (hr0 : Kd.C (Kd.int .i64) w A0 l0.length l0) (hc0 : l0.length ≤ c0) (h : impl_times.f k l0 a1 = some r) :
  Calls Try.prog 149 #[.slice A0 l0.length c0, .int .i64 a1] w fun e w' => ∃ v0_ : Value, e = .returned (v0_) ∧ Kd.R (Kd.int .i64) 2 w' w.heap.size (fun _ => True) v0_ r ∧ Below w.heap.size w w' := by
 have HR0 := Aside0.mk hr0
 have HC0 := Aside0.mk hc0
 clear hr0 hc0
 have HB := Aside0.mk (Below.refl w.heap.size w)
 have H : (if 0 ≤ (wrap64 ((l0.length : Int) + 1)) then (if (wrap64 ((l0.length : Int) + 1) : Int).toNat ≤ 35184372088832 then (impl_times.l0 k a1 (List.replicate (wrap64 ((l0.length : Int) + 1) : Int).toNat 0) l0 (l0.length : Int) 0) else (none)) else (none)) = some r := h
 clear h
 obtain ⟨ji3, hji3⟩ : ∃ j_ : Int, (wrap64 ((l0.length : Int) + 1)) = j_ := ⟨_, rfl⟩
 replace H : (if 0 ≤ (ji3) then (if (ji3 : Int).toNat ≤ 35184372088832 then (impl_times.l0 k a1 (List.replicate (ji3 : Int).toNat 0) l0 (l0.length : Int) 0) else (none)) else (none)) = some r := by first | (rw [hji3] at H; exact H) | (simp only [hji3] at H ⊢; exact H)
 have hji3w : (IntKind.i64.wrap ((l0.length : Int) + 1)) = ji3 := (i64_w _).trans hji3
 by_cases c4 : 0 ≤ (ji3)
 rotate_left
 ·rw [if_neg c4] at H
  exact absurd H (by simp)
 rw [if_pos c4] at H
 have c4b0 := eq_true c4
 have c4b1 : decide (0 ≤ (ji3)) = true := decide_eq_true c4
 clear c4
 by_cases c5 : (ji3 : Int).toNat ≤ 35184372088832
 rotate_left
 ·rw [if_neg c5] at H
  exact absurd H (by simp)
 rw [if_pos c5] at H
 have c5b0 := eq_true c5
 have c5b1 : decide ((ji3 : Int).toNat ≤ 35184372088832) = true := decide_eq_true c5
 clear c5
 obtain ⟨y1491001, hy1491001⟩ : ∃ y_ : List Int, y_ = (List.replicate (ji3 : Int).toNat 0) := ⟨_, rfl⟩
 replace H : (impl_times.l0 k a1 y1491001 l0 (l0.length : Int) 0) = some r := by first | (rw [hy1491001]; with_reducible exact H) | (have H2_ := (Option.bind_some _ _).symm.trans H; rw [hy1491001]; with_reducible exact H2_) | (have H2_ := (Option.bind_some _ _).symm.trans H; with_reducible exact H2_) | with_reducible exact H | (rw [hy1491001]; exact H) | exact H
 have Ny1491001 := Aside0.mk hy1491001
 clear hy1491001
 have H' := Aside0.mk H
 clear H
 go_enter Try.func149, Try.ntmps149
 go_wp2_with (first | ((with_reducible refine gate_dst (N := 11) rfl ?_); refine Kd.R_make (Kd.int .i64) _ 2 rfl (N := 11) rfl 24 _ _ rfl ji3 rfl rfl Try.underlying24 (.int .i64 0) 8 info2 rfl (by decide) (by omega) 0 (ok := fun _ => True) (okp := fun _ => True) rfl (fun _ hk => hk) trivial (of_decide_eq_true (by first | (with_reducible assumption) | assumption)) (Nat.le_trans (Nat.mul_le_mul_right _ (of_decide_eq_true (by first | (with_reducible assumption) | assumption) : ji3.toNat ≤ 35184372088832)) (by omega)) (Below.refl _ _) (Nat.le_refl _) ?_; intro v1491002 w6 ho7 hb hg_ hnew_; clear hg_ hnew_; (first | rw [← Ny1491001.out] at ho7 | (simp only [Int.reduceToNat] at ho7; rw [← Ny1491001.out] at ho7)); have n0_ := Aside0.mk (Kd.R_lower ho7 (below_size (by repeat (first | (with_reducible first | exact HB.out | apply below_alloc | apply pw_below_drewN | apply below_drew1) | exact HB.out)))); have n1_ := Aside0.mk (below_step (by repeat (first | (with_reducible first | exact HB.out | apply below_alloc | apply pw_below_drewN | apply below_drew1) | exact HB.out)) hb); clear HB; have HO1491003 := n0_; have HB := n1_; clear n0_ n1_; clear hb ho7))
 go_loopg [14] k (fun kq v14 w' => ∃ (x5_1 : List Int) (x14_1 : Int), v14 = .int .i64 x14_1 ∧ Aside0 (impl_times.l0 kq a1 x5_1 l0 (l0.length : Int) x14_1 = some r) ∧ Aside0 (kq ≤ k) ∧ Aside0 (Kd.R (Kd.int .i64) 2 w' w.heap.size (fun _ => True) v1491002 x5_1) ∧ Aside0 (Below w.heap.size w w'))
 case atStart => exact ⟨(y1491001), (0), (by first | rfl | (simp; done) | (simp [*]; done)), H', ⟨Nat.le_refl _⟩, ⟨by (with_reducible repeat (first | apply Kd.R_alloc | apply Kd.R_drewN | apply Kd.R_drew)); exact HO1491003.out⟩, ⟨by repeat (first | (with_reducible first | exact HB.out | apply below_alloc | apply pw_below_drewN | apply below_drew1) | exact HB.out)⟩⟩
 case round =>
  clear H'
  try clear c1
  try clear p2
  try clear c4
  try clear c4b0
  try clear c4b1
  try clear c5
  try clear c5b0
  try clear c5b1
  try clear p6
  obtain ⟨x5_1, x14_1, rfl, HA, HK1, HO_5, HB⟩ := hrel
  cases gk with
  | zero => exact absurd HA.out (by simp [impl_times.l0])
  | succ k1 =>
   have H := HA.out
   clear HA
   simp only [impl_times.l0] at H
   by_cases c8 : x14_1 < (l0.length : Int)
   rotate_left
   ·rw [if_neg c8] at H
    have c8b0 : decide (x14_1 < (l0.length : Int)) = false := decide_eq_false c8
    clear c8
    obtain rfl := Option.some.inj H
    go_wp2
    go_ret
    exact ⟨_, by first | rfl | (simp [errW_none, errW_some] <;> rfl) | (simp only [← hji3]; first | rfl | (simp [errW_none, errW_some] <;> rfl)) | (simp [*, errW_none, errW_some] <;> rfl), by (with_reducible repeat (first | apply Kd.R_alloc | apply Kd.R_drewN | apply Kd.R_drew)); exact HO_5.out, by repeat (first | (with_reducible first | exact HB.out | apply below_alloc | apply pw_below_drewN | apply below_drew1) | exact HB.out)⟩
   rw [if_pos c8] at H
   have c8b0 : decide (x14_1 < (l0.length : Int)) = true := decide_eq_true c8
   clear c8
   by_cases c9 : 0 ≤ x14_1
   rotate_left
   ·rw [if_neg c9] at H
    exact absurd H (by simp)
   rw [if_pos c9] at H
   have c9b0 : decide (0 ≤ x14_1) = true := decide_eq_true c9
   clear c9
   by_cases c10 : x14_1 < (l0.length : Int)
   rotate_left
   ·rw [if_neg c10] at H
    exact absurd H (by simp)
   rw [if_pos c10] at H
   have c10b0 : decide (x14_1 < (l0.length : Int)) = true := decide_eq_true c10
   clear c10
   obtain ⟨ji11, hji11⟩ : ∃ j_ : Int, (wrap64 (x14_1 + 1)) = j_ := ⟨_, rfl⟩
   replace H : (if 0 ≤ (ji11) then (if (ji11) < (x5_1.length : Int) then ((some (x5_1.set ((ji11) : Int).toNat (wrap64 ((rd x5_1 (ji11)) + (rd l0 x14_1))) : List Int)).bind fun y1491006 => (if x14_1 < (x5_1.length : Int) then (impl_times.l0 k1 a1 (y1491006.set (x14_1 : Int).toNat (wrap64 ((rd y1491006 x14_1) - (wrap64 (a1 * (rd l0 x14_1)))))) l0 (l0.length : Int) ji11) else (none))) else (none)) else (none)) = some r := by first | (rw [hji11] at H; exact H) | (simp only [hji11] at H ⊢; exact H)
   have hji11w : (IntKind.i64.wrap (x14_1 + 1)) = ji11 := (i64_w _).trans hji11
   by_cases c12 : 0 ≤ (ji11)
   rotate_left
   ·rw [if_neg c12] at H
    exact absurd H (by simp)
   rw [if_pos c12] at H
   have c12b0 : decide (0 ≤ (ji11)) = true := decide_eq_true c12
   clear c12
   by_cases c13 : (ji11) < (x5_1.length : Int)
   rotate_left
   ·rw [if_neg c13] at H
    exact absurd H (by simp)
   rw [if_pos c13] at H
   have c13b0 : decide ((ji11) < (x5_1.length : Int)) = true := decide_eq_true c13
   clear c13
   obtain ⟨y1491006, hy1491006⟩ : ∃ y_ : List Int, y_ = (x5_1.set ((ji11) : Int).toNat (wrap64 ((rd x5_1 (ji11)) + (rd l0 x14_1)))) := ⟨_, rfl⟩
   replace H : (if x14_1 < (x5_1.length : Int) then (impl_times.l0 k1 a1 (y1491006.set (x14_1 : Int).toNat (wrap64 ((rd y1491006 x14_1) - (wrap64 (a1 * (rd l0 x14_1)))))) l0 (l0.length : Int) ji11) else (none)) = some r := by first | (rw [hy1491006]; with_reducible exact H) | (have H2_ := (Option.bind_some _ _).symm.trans H; rw [hy1491006]; with_reducible exact H2_) | (have H2_ := (Option.bind_some _ _).symm.trans H; with_reducible exact H2_) | with_reducible exact H | (rw [hy1491006]; exact H) | exact H
   have Ny1491006 := Aside0.mk hy1491006
   clear hy1491006
   by_cases c15 : x14_1 < (x5_1.length : Int)
   rotate_left
   ·rw [if_neg c15] at H
    exact absurd H (by simp)
   rw [if_pos c15] at H
   have c15b0 : decide (x14_1 < (x5_1.length : Int)) = true := decide_eq_true c15
   clear c15
   obtain ⟨y1491008, hy1491008⟩ : ∃ y_ : List Int, y_ = (y1491006.set (x14_1 : Int).toNat (wrap64 ((rd y1491006 x14_1) - (wrap64 (a1 * (rd l0 x14_1)))))) := ⟨_, rfl⟩
   replace H : (impl_times.l0 k1 a1 y1491008 l0 (l0.length : Int) ji11) = some r := by first | (rw [hy1491008]; with_reducible exact H) | (have H2_ := (Option.bind_some _ _).symm.trans H; rw [hy1491008]; with_reducible exact H2_) | (have H2_ := (Option.bind_some _ _).symm.trans H; with_reducible exact H2_) | with_reducible exact H | (rw [hy1491008]; exact H) | exact H
   have Ny1491008 := Aside0.mk hy1491008
   clear hy1491008
   have H' := Aside0.mk H
   clear H
   have p1491004 : 0 ≤ (x14_1 : Int) := of_decide_eq_true (by first | (with_reducible assumption) | assumption)
   have q1491004 : x14_1 < (l0.length : Int) := of_decide_eq_true (by first | (with_reducible assumption) | assumption)
   obtain ⟨ad1491004, e1491004, hx1491004_0⟩ := Kd.at_int HR0.out x14_1 p1491004 q1491004
   cases e1491004
   replace hx1491004_0 := (HB.out.cell (World.block_lt_of_cell? w _ hx1491004_0)).trans hx1491004_0
   replace p1491004 := eq_true p1491004
   replace q1491004 := eq_true q1491004
   obtain ⟨Ao17, co17, eo17⟩ := Kd.R_slice HO_5.out
   subst eo17
   have p1491005 : 0 ≤ ((ji11) : Int) := of_decide_eq_true (by first | (with_reducible assumption) | assumption)
   have q1491005 : (ji11) < (x5_1.length : Int) := of_decide_eq_true (by first | (with_reducible assumption) | assumption)
   obtain ⟨ad1491005, e1491005, hx1491005_0⟩ := Kd.at_int (Kd.R_reads' HO_5.out).2.2 (ji11) p1491005 q1491005
   cases e1491005
   replace p1491005 := eq_true p1491005
   replace q1491005 := eq_true q1491005
   have p14 : 0 ≤ ((ji11) : Int) := of_decide_eq_true (by first | (with_reducible assumption) | assumption)
   have q14 : ((ji11) : Int) < ((x5_1.length : Int) : Int) := of_decide_eq_true (by first | (with_reducible assumption) | assumption)
   obtain ⟨go14, co14, eo14, gb14, gl14, cl14, HG14⟩ := Kd.R_form HO_5.out (by omega)
   (first | cases eo14 | (injection eo14 with ea_ en_ ec_; (first | subst ea_ | (injection ea_ with ea_; subst ea_)); subst ec_; clear en_))
   have GB14 := Aside0.mk gb14
   have GG14 := Aside0.mk HG14
   clear gb14 gl14 HG14
   (first | simp only [add_plain] at hx1491005_0 | skip)
   obtain ⟨hx14_0, hf14_0⟩ := Kd.R_celln 0 HO_5.out ((ji11) : Int) p14 q14
   replace p14 := eq_true p14
   replace q14 := eq_true q14
   have HP18 := Kd.R_putg HO_5.out ((ji11) : Int) (wrap64 ((rd x5_1 (ji11)) + (rd l0 x14_1)))
   go_wp2_with (first | ((with_reducible refine gate_store (t := 2) (p := 26) rfl ?_); refine store_event (t := 2) (p := 26) (v := ?vo_w19) (w1 := (wr.setCell ⟨go14, ((ji11) : Int).toNat, none⟩ (.int .i64 (wrap64 ((rd x5_1 (ji11)) + (rd l0 x14_1)))))) ?hg ?ho ?hn ?hr ?_; (case ho => rfl); (case hg => rfl); (case hn => rfl); (case hr => first | (go_simp; done) | (go_simp; rfl)); intro w19 hw; have hg : wr.grownBy w19 (some go14) := (by rw [hw]; exact HP18.2); have hp_ : Kd.R (Kd.int .i64) 2 w19 w.heap.size (fun _ => True) (.slice (some ⟨go14, 0, none⟩) x5_1.length co17) y1491006 := (by rw [hw, Ny1491006.out]; exact HP18.1); clear HP18; have n0_ := Aside0.mk (hp_); have n1_ := Aside0.mk ((by rw [hw]; exact below_set (HB.out) GB14.out : Below w.heap.size w w19)); clear HO_5; clear HB; have HO_5 := n0_; have HB := n1_; clear n0_ n1_; clear hg hw hp_; have p1491007 : 0 ≤ (x14_1 : Int) := of_decide_eq_true (by first | (with_reducible assumption) | assumption); have q1491007 : x14_1 < (y1491006.length : Int) := (by have h_ : (x14_1 : Int) < ((x5_1.length : Int) : Int) := of_decide_eq_true (by first | (with_reducible assumption) | assumption); first | (have e_ := (Kd.R_reads' HO_5.out).1; omega) | simpa only [Ny1491006.out, List.length_set] using h_); have ql1491007 : ((x14_1 : Int) < ((x5_1.length : Int) : Int)) = True := eq_true (of_decide_eq_true (by first | (with_reducible assumption) | assumption)); obtain ⟨ad1491007, e1491007, hx1491007_0⟩ := Kd.at_int (Kd.R_reads' HO_5.out).2.2 x14_1 p1491007 q1491007; obtain rfl : (⟨go14, 0, none⟩ : Addr) = ad1491007 := (by injection e1491007); (first | simp only [add_plain] at hx1491007_0 | simp only [add_at] at hx1491007_0 | simp only [Addr.add, Nat.zero_add] at hx1491007_0 | skip); replace p1491007 := eq_true p1491007; replace q1491007 := eq_true q1491007; have p16 : 0 ≤ (x14_1 : Int) := of_decide_eq_true (by first | (with_reducible assumption) | assumption); have q16 : (x14_1 : Int) < ((x5_1.length : Int) : Int) := of_decide_eq_true (by first | (with_reducible assumption) | assumption); obtain ⟨hx16_0, hf16_0⟩ := Kd.R_celln 0 HO_5.out (x14_1 : Int) p16 q16; replace p16 := eq_true p16; replace q16 := eq_true q16; obtain ⟨hy20_, hz20_⟩ := Kd.R_celln 0 HO_5.out (x14_1 : Int) (of_decide_eq_true (by first | (with_reducible assumption) | assumption)) (of_decide_eq_true (by first | (with_reducible assumption) | assumption)); have HP20 := Kd.R_putg HO_5.out (x14_1 : Int) (wrap64 ((rd y1491006 x14_1) - (wrap64 (a1 * (rd l0 x14_1)))))) | ((with_reducible refine gate_store (t := 2) (p := 35) rfl ?_); refine store_event (t := 2) (p := 35) (v := ?vo_w21) (w1 := (w19.setCell ⟨go14, (x14_1 : Int).toNat, none⟩ (.int .i64 (wrap64 ((rd y1491006 x14_1) - (wrap64 (a1 * (rd l0 x14_1)))))))) ?hg ?ho ?hn ?hr ?_; (case ho => rfl); (case hg => rfl); (case hn => rfl); (case hr => first | (go_simp; done) | (go_simp; rfl)); intro w21 hw; have hg : w19.grownBy w21 (some go14) := (by rw [hw]; exact HP20.2); have hp_ : Kd.R (Kd.int .i64) 2 w21 w.heap.size (fun _ => True) (.slice (some ⟨go14, 0, none⟩) x5_1.length co17) y1491008 := (by rw [hw, Ny1491008.out]; exact HP20.1); clear HP20; have n0_ := Aside0.mk (hp_); have n1_ := Aside0.mk ((by rw [hw]; exact below_set (HB.out) GB14.out : Below w.heap.size w w21)); clear HO_5; clear HB; have HO_5 := n0_; have HB := n1_; clear n0_ n1_; clear hg hw hp_))
   go_roundg k1
   case measure => have := HK1.out; omega
   case rel => exact ⟨(y1491008), (ji11), (by first | rfl | (simp; done) | (simp only [← hji11] <;> (first | rfl | simp)) | (simp [*]; done)), H', ⟨by have := HK1.out; omega⟩, ⟨by (with_reducible repeat (first | apply Kd.R_alloc | apply Kd.R_drewN | apply Kd.R_drew)); exact HO_5.out⟩, ⟨by repeat (first | (with_reducible first | exact HB.out | apply below_alloc | apply pw_below_drewN | apply below_drew1) | exact HB.out)⟩⟩
end Go.Proofs.Ytcnekpdoldljgaa.F
end
section
namespace Go.Proofs.Ytcnekpdoldljgaa.Pure
open Go.RowKit Go.Proofs.Ytcnekpdoldljgaa.F Go.Proofs.YtcnekpdoldljgaaW.PrintWords Go.Proofs.YtcnekpdoldljgaaW.PrintLast
theorem irow_l1 (w : List Int) (hw : Word w) (out : List (List Int)) (i : Nat) (hi : i < w.length / 2) (r : List (List Int))
    (hr : Ev (fun k => if out.length < 5864062014805 then impl_rows.l0 k w ((w.length / 2 : Nat) : Int) (out ++ [rowTo w i (w.length / 2)]) ((w.length / 2 : Nat) : Int) ((i + 1 : Nat) : Int) else none) r) :
    ∀ d m, m + d = w.length / 2 → Ev (fun k => impl_rows.l1 k w ((w.length / 2 : Nat) : Int) out (i : Int) (rowTo w i m ++ List.replicate d 0) ((w.length / 2 : Nat) : Int) (i : Int) ((w.length / 2 : Nat) : Int) (m : Int)) r := by
  have hle := hw.le
  intro d
  induction d with
  | zero =>
    intro m hm
    refine Ev.step (fun k => ?_) hr
    simp only [impl_rows.l1]
    rw [if_neg (by omega), wS (by omega), List.replicate_zero, List.append_nil, show m = w.length / 2 from by omega]
  | succ d ih =>
    intro m hm
    have hrow : rowTo w i (m + 1) ++ List.replicate d 0 = rowTo w i m ++ ent w i m :: List.replicate d 0 := by rw [rowTo_succ]; simp
    refine Ev_succ ?_
    simp only [impl_rows.l1]
    refine Ev.congr (fun k => if_pos (by omega)) ?_
    refine Ev.bind (icross_ev w hw i m hi (by omega)) ?_
    have hh := ih (m + 1) (by omega)
    rw [hrow] at hh
    have hl := rowTo_len w i m
    by_cases c : crossB w i m = true
    · refine Ev.congr (fun k => if_pos c) ?_
      rw [show ent w i m = 1 from by unfold ent; rw [if_pos c]] at hh
      refine Ev.congr (fun k => ?_) hh
      rw [if_pos (by omega), if_pos (by rw [List.length_append, hl, List.length_replicate]; omega), wS (by omega), Int.toNat_natCast, set_ent]
    · refine Ev.congr (fun k => if_neg c) ?_
      rw [show ent w i m = 0 from by unfold ent; rw [if_neg c], ← List.replicate_succ] at hh
      exact Ev.congr (fun k => by rw [wS (by omega)]) hh
theorem irow_l0 (w : List Int) (hw : Word w) : ∀ d n, n + d = w.length / 2 → Ev (fun k => impl_rows.l0 k w ((w.length / 2 : Nat) : Int) (rowsTo w n) ((w.length / 2 : Nat) : Int) (n : Int)) (rowsOf w) := by
  have hle := hw.le
  intro d
  induction d with
  | zero =>
    intro n hn
    refine Ev.step (f := fun _ => some (rowsOf w)) (fun k => ?_) (Ev.now _)
    simp only [impl_rows.l0]; rw [if_neg (by omega), show n = w.length / 2 from by omega]; rfl
  | succ d ih =>
    intro n hn
    refine Ev_succ ?_
    simp only [impl_rows.l0]
    refine Ev.congr (fun k => if_pos (by omega)) ?_
    refine Ev.congr (fun k => if_pos (by omega)) ?_
    refine Ev.congr (fun k => if_pos (by omega)) ?_
    have hl := rowsTo_len w n
    have h := irow_l1 w hw (rowsTo w n) n (by omega) _ (Ev.congr (fun k => if_pos (by omega)) (by have h := ih (n + 1) (by omega); rw [rowsTo_succ] at h; exact h)) (w.length / 2) 0 (by omega)
    rw [show rowTo w n 0 = [] from rfl, List.nil_append] at h
    exact Ev.congr (fun k => by rw [Int.toNat_natCast]; rfl) h
theorem irows_ev (w : List Int) (hw : Word w) : Ev (fun k => impl_rows.f k w) (rowsOf w) := by
  have hle := hw.le
  refine Ev.congr (fun k => ?_) (irow_l0 w hw (w.length / 2) 0 (by omega))
  unfold impl_rows.f
  rw [chords_f w hle, Option.bind_some]; rfl
end Go.Proofs.Ytcnekpdoldljgaa.Pure
end
section
namespace Go.Proofs.Ytcnekpdoldljgaa.Pure
open Go.RowKit Go.Proofs.Ytcnekpdoldljgaa.F Go.Proofs.YtcnekpdoldljgaaW.PrintWords Go.Proofs.YtcnekpdoldljgaaW.PrintLast
theorem index_none (l : List Int) (x : Int) (hb : l.length < 4611686018427387904) : ∀ d n, n + d = l.length → x ∉ l.drop n → Ev (fun k => slices_Index_int64_int64.l0 k l x (l.length : Int) (n : Int)) (-1) := by
  intro d
  induction d with
  | zero =>
    intro n hn _
    refine Ev.step (f := fun _ => some _) (fun k => ?_) (Ev.now _)
    simp only [slices_Index_int64_int64.l0]; rw [if_neg (by omega)]
  | succ d ih =>
    intro n hn hx
    rw [drop_cons (by omega)] at hx
    refine Ev.step (fun k => ?_) (ih (n + 1) (by omega) (fun h => hx (List.mem_cons_of_mem _ h)))
    simp only [slices_Index_int64_int64.l0]; rw [if_pos (by omega), if_pos (by omega), if_pos (by omega), rdN, if_neg (fun (e : x = l.getD n 0) => hx (e ▸ List.mem_cons_self)), wS (by omega)]
theorem contains_ev (l : List Int) (x : Int) (hb : l.length < 4611686018427387904) : Ev (fun k => slices_Contains_int64_int64.f k l x) (l.contains x) := by
  unfold slices_Contains_int64_int64.f
  by_cases h : x ∈ l
  · refine Ev.bind (index_ev l x hb h) ?_
    rw [show l.contains x = true from List.contains_iff_mem.2 h]
    exact Ev.congr (fun k => by rw [decide_eq_true (by omega)]) (Ev.now _)
  · have h0 : Ev (fun k => slices_Index_int64_int64.f k l x) (-1) := index_none l x hb l.length 0 (by omega) h
    refine Ev.bind h0 ?_
    rw [show l.contains x = false from by simpa using h]
    exact Ev.congr (fun k => by rw [decide_eq_false (by omega)]) (Ev.now _)
end Go.Proofs.Ytcnekpdoldljgaa.Pure
end
section
namespace Go.Proofs.Ytcnekpdoldljgaa.F
open Go.RowKit Go.Proofs.YtcnekpdoldljgaaW.PrintWords Go.Proofs.YtcnekpdoldljgaaW.PrintLast Go.Proofs.YtcnekpdoldljgaaW.PrintMore
attribute [local go_sem] max2_int min2_int max_two min_two max_three min_three max_four min_four   
set_option linter.unusedVariables false
set_option linter.unusedSimpArgs false
open Go.Proofs.Ytcnekpdoldljgaa.Pure Go.Proofs.Ytcnekpdoldljgaa.Mem Go.Proofs.Ytcnekpdoldljgaa.Red
theorem times_powC : ∀ m, m < 6 → impl_times.f 10 (powC m) 1 = some (powC (m + 1))
 | 0, _ => by kernel_rfl
 | 1, _ => by kernel_rfl
 | 2, _ => by kernel_rfl
 | 3, _ => by kernel_rfl
 | 4, _ => by kernel_rfl
 | 5, _ => by kernel_rfl
structure IEnv (w : World) (l0 : List Int) (A0 : Option Addr) (c0 n : Nat) (Bw Bo Br : Nat) : Prop where
 cw : w.cell? ⟨Bw, 0, none⟩ = some (.slice A0 l0.length c0)
 co : w.cell? ⟨Bo, 0, none⟩ = some (.slice (some ⟨Br, 0, none⟩) (n + 1) (n + 1))
 n1 : Bw ≠ Br
 n3 : Bo ≠ Br
 rd : Kd.F (Kd.int .i64) w (fun k => k ≠ Br) A0 l0.length l0
 lt : Br < w.heap.size
theorem IEnv.grows {w w' : World} {l0 : List Int} {A0 : Option Addr} {c0 n : Nat} {Bw Bo Br : Nat} (h : IEnv w l0 A0 c0 n Bw Bo Br) (hg : w.grownBy w' (some Br)) : IEnv w' l0 A0 c0 n Bw Bo Br :=
 ⟨hg.cell h.cw (fun e => h.n1 (Option.some.inj e)), hg.cell h.co (fun e => h.n3 (Option.some.inj e)), h.n1, h.n3,
  Kd.F_grown h.rd hg (fun k hk e => hk (Option.some.inj e)), Nat.lt_of_lt_of_le h.lt hg.size⟩
set_option maxHeartbeats 16000000 in
set_option maxRecDepth 100000 in
theorem interlace_1 (l0 Ls : List Int) (p : Int → Bool) (rs : List (List Int)) (kr nr r m n : Nat) (old : List Int) (A0 A : Option Addr) (c0 c Bw Bo Br : Nat) (w : World)
  (hE : IEnv w l0 A0 c0 n Bw Bo Br) (hc0 : l0.length ≤ c0) (hl : l0.length ≤ 12) (hL : Kd.F (Kd.int .i64) w (fun k => k ≠ Br) A Ls.length Ls) (hc : Ls.length ≤ c) (hok : okL (l0.filter p) = true)
  (hp : ∀ x, ∃ k, slices_Contains_int64_int64.f k Ls x = some (p x)) (hrows : impl_rows.f kr (nrm (l0.filter p)) = some rs) (hb : ∀ q ∈ rs, Bits q ∧ q.length = nr) (hrl : rs.length = nr) (hnr : nr ≤ 12) (hr : IsRank rs r)
  (hm : (Ls.length : Int) - (r : Int) = (m : Int)) (hm6 : m ≤ 6) (hmn : m ≤ n) (hn6 : n ≤ 6) (hol : old.length = n + 1) (hob : ∀ i, -1000000 ≤ old.getD i 0 + (powC m).getD i 0 ∧ old.getD i 0 + (powC m).getD i 0 ≤ 1000000)
  (hH : w.heap[Br]? = some (.cells (nums .i64 old).toArray 2 (0, 0))) :
  Calls Try.prog 145 #[.slice A Ls.length c, .pointer (some ⟨Bw, 0, none⟩), .pointer (some ⟨Bo, 0, none⟩)] w fun e w2 => e = .returned (.tuple #[]) ∧ w.grownBy w2 (some Br) ∧ w2.heap[Br]? = some (.cells (nums .i64 (addTo old (powC m) (m + 1))).toArray 2 (0, 0)) := by
 obtain ⟨wa, hwa⟩ : ∃ wa, w.alloc (.cells #[.slice A Ls.length c] 24) = wa := ⟨_, rfl⟩
 have hba : Below w.heap.size w wa := by rw [← hwa]; exact below_alloc (Below.refl _ _) _
 have hnew : wa.cell? ⟨w.heap.size, 0, none⟩ = some (.slice A Ls.length c) := by
  rw [← hwa]
  have : (w.alloc (.cells #[.slice A Ls.length c] 24)).heap[w.heap.size]? = some (.cells #[.slice A Ls.length c] 24 (0, 0)) := new_at rfl
  simp only [World.cell?, this]
  rfl
 have hsa : w.heap.size < wa.heap.size := World.block_lt_of_cell? wa _ hnew
 have hword := wordOf_walk l0 Ls p A0 A c0 c w.heap.size wa hok (by omega) (Kd.C_below (Kd.F_now hE.rd) hba) hc0 hp hnew (Kd.C_below (Kd.F_now hL) hba) hc
 have hcw : wa.cell? ⟨Bw, 0, none⟩ = some (.slice A0 l0.length c0) := by
  have := hba.block Bw (World.block_lt_of_cell? w _ hE.cw)
  simpa [World.cell?, this] using hE.cw
 have HWORD := Aside0.mk hword
 have HE := Aside0.mk hE
 have HNEW := Aside0.mk hnew
 have HBA := Aside0.mk hba
 have HSA := Aside0.mk hsa
 have HRANK := Aside0.mk (fun (A : Option Addr) (c : Nat) (W : World) (h1 : Kd.C (Kd.int .i64) W A (nrm (l0.filter p)).length (nrm (l0.filter p))) (h2 : (nrm (l0.filter p)).length ≤ c) => rank_walk kr (nrm (l0.filter p)) rs nr r A c W h1 h2 hrows hb hrl hnr hr)
 have HM := Aside0.mk hm
 have HM6 := Aside0.mk hm6
 have HMN := Aside0.mk hmn
 have HN6 := Aside0.mk hn6
 have HOL := Aside0.mk hol
 have HOB := Aside0.mk hob
 have HH := Aside0.mk hH
 obtain ⟨inner, hinner⟩ : ∃ inner, nrm (l0.filter p) = inner := ⟨_, rfl⟩
 rw [hinner] at HWORD HRANK
 clear hword hE hnew hba hsa hc0 hl hL hc hok hp hrows hb hrl hnr hr hm hm6 hmn hn6 hol hob hH hinner
 go_enter Try.func145, Try.ntmps145
 go_wp2_with (first
  | (go_at_call 146; (try rw [hwa]); refine HWORD.out.mono ?_; rintro e w2 ⟨v2, rfl, hR2, hB2⟩; have HR2 := Aside0.mk hR2; have HB2 := Aside0.mk hB2; clear hR2 hB2)
  | ((with_reducible refine gate_dst (N := 11) rfl ?_); refine Kd.R_lit (Kd.int .i64) (w0 := w) w.heap.size 2 ?hg (N := 11) ?hd (xs := ([1] : List Int)) (inner := [.int .i64 1]) (ok := fun _ => True) (okp := fun _ => False) ?hr ?hp (fun _ hk => hk.elim) trivial (below_step HBA.out HB2.out) (below_step HBA.out HB2.out).size (by simp) ?_; (case hd => rfl); (case hg => rfl); (case hr => first | (go_simp; done) | (go_simp; rfl)); (case hp => exact ((Reps.none _ _).snoc (p := (1 : Int)) rfl rfl)); intro v3 w3 ho hb hg_ hnew_; have HR3 := Aside0.mk ho; have HB3 := Aside0.mk hb; have HG3 := Aside0.mk hg_; clear ho hb hg_ hnew_))
 obtain ⟨A2, c2, rfl⟩ := Kd.R_slice HR2.out
 have HCAP := Aside0.mk (Kd.R_reads' HR2.out).2.1
 have HC3 := Aside0.mk (Kd.F_now (Kd.F_grown (Kd.R_F HR2.out) HG3.out (fun _ _ e => by cases e)))
 have hq3 : w3.cell? ⟨w.heap.size, 0, none⟩ = some (.slice A Ls.length c) := by
  have h1 := HG3.out.block w.heap.size (Nat.lt_of_lt_of_le HSA.out HB2.out.size) (by simp)
  have h2 := HB2.out.block w.heap.size HSA.out
  have h3 := HNEW.out
  simpa [World.cell?, h1, h2] using h3
 have HQ := Aside0.mk (show ∀ W W' : World, W.heap = w3.heap → Below W.heap.size W W' → W'.cell? ⟨w.heap.size, 0, none⟩ = some (.slice A Ls.length c) from fun W W' hW hb => by
  have h1 := hb.block w.heap.size (by rw [hW]; exact World.block_lt_of_cell? w3 _ hq3)
  rw [hW] at h1
  simpa [World.cell?, h1] using hq3)
 have hsub : wrap64 ((Ls.length : Int) - (r : Int)) = (m : Int) := by rw [HM.out]; have := HM6.out; unfold wrap64; omega
 have HSUB := Aside0.mk hsub
 clear hsub
 go_region_law (first
  | (refine goes_ Try.func148 (by kernel_rfl) rfl #[.slice A2 inner.length c2] (by rfl) rfl rfl (by simp [Act.eval, Act.put]) ?_; refine (HRANK.out A2 c2 _ ?s1 HCAP.out).mono ?_; (case s1 => exact Kd.C_drew HC3.out); rintro e w4 ⟨rfl, hB4⟩; refine ⟨_, rfl, ?_⟩; have q4 := HQ.out w3.drew w4 rfl hB4; have HB4 := Aside0.mk (show Below w.heap.size w w4 from below_step (below_drew1 HB3.out) hB4); have HR4 := Aside0.mk (show Kd.R (Kd.int .i64) 2 w4 w.heap.size (fun _ => True) v3 [1] from Kd.R_below (Kd.R_drew HR3.out) hB4); clear hB4))
 all_goals
  go_wp2
  simp only [Act.put, List.getElem_toArray, List.getElem_cons_zero, List.getElem_cons_succ, List.setIfInBounds_toArray, List.set_cons_zero, List.set_cons_succ, i64_w, HSUB.out]
  go_loopw [17, 5] (fun i f wr => ∃ j : Nat, i = .int .i64 (j : Int) ∧ Aside0 (j ≤ m) ∧ Aside0 (Below w.heap.size w wr) ∧ Aside0 (Kd.R (Kd.int .i64) 2 wr w.heap.size (fun _ => True) f (powC j)))
   (fun i _ _ => m - (intOf i).toNat)
  case atStart => exact ⟨0, rfl, ⟨Nat.zero_le _⟩, HB4, HR4⟩
  case round =>
   obtain ⟨j, rfl, HJ, HBJ, HRJ⟩ := hrel
   obtain ⟨A5, c5, rfl⟩ := Kd.R_slice HRJ.out
   by_cases hj : j < m
   ·have t1 : decide ((j : Int) < (m : Int)) = true := decide_eq_true (by omega)
    have t2 : decide (j < m) = true := decide_eq_true hj
    have hrd := Kd.R_reads' HRJ.out
    have HT := Aside0.mk (impl_times.calls 10 A5 c5 (powC j) 1 (powC (j + 1)) wr hrd.2.2 hrd.2.1 (times_powC j (by have := HM6.out; omega)))
    clear hrd
    go_wp2_with (first | (go_at_call 149; refine HT.out.mono ?_; rintro e w5 ⟨v5, rfl, hR5, hB5⟩; have HR5 := Aside0.mk (Kd.R_lower hR5 HBJ.out.size); have HB5 := Aside0.mk (below_step HBJ.out hB5); clear hR5 hB5))
    go_roundw
    case rel => exact ⟨j + 1, congrArg _ (wS (by have := HM6.out; omega)), ⟨hj⟩, HB5, HR5⟩
    case measure => rw [wS (by have := HM6.out; omega)]; simp [intOf]; omega
   ·have t1 : decide ((j : Int) < (m : Int)) = false := decide_eq_false (by omega)
    have t2 : decide (j < m) = false := decide_eq_false hj
    have hjm : j = m := by have := HJ.out; omega
    rw [hjm] at HRJ ⊢
    have hlenP : (powC m).length = m + 1 := powC_len m
    have HF5 := Aside0.mk (Kd.R_F (Kd.R_mono (ok' := fun k => k ≠ Br) (Kd.R_bound HRJ.out) (fun k hk => by have := hk.2.1; have := HE.out.lt; omega)))
    rw [hlenP] at HF5 ⊢
    obtain ⟨wo, hwo⟩ : ∃ wo, wo = wr := ⟨wr, rfl⟩
    subst hwo
    go_wp2_with fail
    go_loopw [24] (fun i wq => ∃ x : Nat, i = .int .i64 (x : Int) ∧ Aside0 (x ≤ m + 1) ∧ Aside0 (w.grownBy wq (some Br)) ∧ Aside0 (wq.heap[Br]? = some (.cells (nums .i64 (addTo old (powC m) x)).toArray 2 (0, 0))) ∧ Aside0 (Kd.F (Kd.int .i64) wq (fun k => k ≠ Br) A5 (m + 1) (powC m)))
     (fun i _ => m + 1 - (intOf i).toNat)
    case atStart => exact ⟨0, rfl, ⟨Nat.zero_le _⟩, ⟨gb_of_below HBJ.out _⟩, ⟨by rw [addTo_zero]; exact (HBJ.out.block Br HE.out.lt).trans HH.out⟩, HF5⟩
    case round =>
     obtain ⟨x, rfl, HX, HGX, HHX, HFX⟩ := hrel
     by_cases hx : x < m + 1
     ·have r1 : decide ((x : Int) < ((m + 1 : Nat) : Int)) = true := decide_eq_true (by omega)
      have r2 : decide (x < m + 1) = true := decide_eq_true hx
      have r3 : decide ((x : Int) < (m : Int) + 1) = true := decide_eq_true (by omega)
      have hxn : x < n + 1 := by have := HMN.out; omega
      have r4 : decide ((x : Int) < ((n + 1 : Nat) : Int)) = true := decide_eq_true (by omega)
      have r5 : decide (x < n + 1) = true := decide_eq_true hxn
      have r6 : decide ((x : Int) < (n : Int) + 1) = true := decide_eq_true (by omega)
      obtain ⟨af, eaf, hcf⟩ := cell_of_C (Kd.F_now HFX.out) x hx
      subst eaf
      have hco := (HE.out.grows HGX.out).co
      have hlen2 : (addTo old (powC m) x).length = n + 1 := by rw [addTo_len, HOL.out]
      have hci : wr.cell? ⟨Br, x, none⟩ = some (.int .i64 (old.getD x 0)) := by
       rw [← addTo_at old (powC m) x (by rw [HOL.out]; exact hxn)]
       have := nums_get (addTo old (powC m) x) x (by rw [hlen2]; exact hxn)
       simpa [World.cell?, HHX.out] using this
      have hfi : wr.frozen? ⟨Br, x, none⟩ = false := by simp [World.frozen?, HHX.out]
      obtain ⟨y, hy⟩ : ∃ y, (powC m).getD x 0 = y := ⟨_, rfl⟩
      obtain ⟨z, hz⟩ : ∃ z, old.getD x 0 = z := ⟨_, rfl⟩
      have hsum : wrap64 (z + y) = z + y := by have := HOB.out x; rw [hy, hz] at this; unfold wrap64; omega
      have hset := addTo_succ old (powC m) x (by rw [HOL.out]; exact hxn)
      rw [hy] at hcf hset
      rw [hz] at hci hset
      have HSUM := Aside0.mk hsum
      have HSET := Aside0.mk hset
      clear hy hz hsum hset hlen2
      go_wp2_with fail
      go_roundw
      case rel => exact ⟨x + 1, congrArg _ (wS (by have := HM6.out; omega)), ⟨hx⟩, ⟨grown_set HGX.out x _⟩, ⟨by rw [blk_set HHX.out x _, HSUM.out, nums_set, HSET.out]⟩, ⟨Kd.F_far HFX.out (fun k hk => hk) _⟩⟩
      case measure => rw [wS (by have := HM6.out; omega)]; simp [intOf]; omega
     ·have r1 : decide ((x : Int) < ((m + 1 : Nat) : Int)) = false := decide_eq_false (by omega)
      have r2 : decide (x < m + 1) = false := decide_eq_false hx
      have r3 : decide ((x : Int) < (m : Int) + 1) = false := decide_eq_false (by omega)
      have HXE := Aside0.mk (show x = m + 1 from by have := HX.out; omega)
      go_wp2_with fail
      go_end0
      exact ⟨rfl, HGX.out, by rw [← HXE.out]; exact HHX.out⟩
def impl_interlace.f (l0 : List Int) : Option (List Int) := if isW l0 = true then some (interlaceV l0) else none
set_option maxHeartbeats 8000000 in
set_option maxRecDepth 100000 in
theorem impl_interlace.calls (A0 : Option Addr) (c0 : Nat) (l0 : List Int) (r : List Int) (w : World) (hr0 : Kd.C (Kd.int .i64) w A0 l0.length l0) (hc0 : l0.length ≤ c0) (h : impl_interlace.f l0 = some r) :
  Calls Try.prog 82 #[.slice A0 l0.length c0] w fun e w' => ∃ v0_ : Value, e = .returned v0_ ∧ Kd.R (Kd.int .i64) 2 w' w.heap.size (fun _ => True) v0_ r ∧ Below w.heap.size w w' := by
 have hf : isW l0 = true ∧ r = interlaceV l0 := by
  unfold impl_interlace.f at h
  by_cases hk : isW l0 = true
  rotate_left
  ·rw [if_neg hk] at h; exact absurd h (by simp)
  rw [if_pos hk] at h; exact ⟨hk, (Option.some.inj h).symm⟩
 have hw := (isW_iff l0).1 hf.1
 have hle := hw.le
 have HW := Aside0.mk hw
 have HRR := Aside0.mk hf.2
 obtain ⟨n, hn⟩ : ∃ n, n = l0.length / 2 := ⟨_, rfl⟩
 have hch : impl_chords.f l0 = some (n : Int) := by rw [hn]; exact chords_f l0 hle
 have CH := Aside0.mk hch
 have HN := Aside0.mk hn
 have hn6 : n ≤ 6 := by omega
 have hmk := make_ints (P := Try.prog) Try.underlying24 info2 ((n : Int) + 1) (n + 1) (by omega) (by omega)
 have HR := Aside0.mk hr0
 have HC := Aside0.mk hc0
 have HLE := Aside0.mk hle
 clear hr0 hc0 h hf hw hle hch hn
 have hmf : ∀ (fn : Fn) (first cap : Array Value) (w : World), (Instr.makeFunc fn first cap).run Try.prog w = .ok (.func fn first cap) w := fun _ _ _ _ => rfl
 go_enter Try.func82, Try.ntmps82
 go_wp2_with (first | (go_at_call 128; refine (impl_chords.calls A0 c0 l0 _ _ (by repeat (first | exact HR.out | refine Kd.C_alloc ?_ _ | refine Kd.C_drewN ?_ _)) HC.out CH.out).mono ?_; rintro e w' ⟨rfl, ⟨nd, rfl⟩⟩))
 obtain ⟨w0, hw0⟩ : ∃ w0, w0 = ((((w.alloc (.cells #[.slice A0 l0.length c0] 24 (0, 0))).drewN nd).alloc (.cells (nums .i64 (List.replicate (n + 1) 0)).toArray 2 (0, 0))).alloc (.cells #[.slice (some ⟨w.heap.size + 1, 0, none⟩) (n + 1) (n + 1)] 24 (0, 0))) := ⟨_, rfl⟩
 have hE : IEnv w0 l0 A0 c0 n w.heap.size (w.heap.size + 1 + 1) (w.heap.size + 1) := by
  rw [hw0]
  exact ⟨cell1 (by repeat (first | exact new_at (by simp) | refine blk_alloc ?_ _ | refine blk_drewN ?_ _)), cell1 (by repeat (first | exact new_at (by simp) | refine blk_alloc ?_ _ | refine blk_drewN ?_ _)), by omega, by omega, by repeat (first | exact Kd.F_mono (F_of_C HR.out) (fun k hk => by omega) | refine Kd.F_alloc ?_ _ | refine Kd.F_drewN ?_ _), by simp⟩
 have hV : w0.heap[w.heap.size + 1]? = some (.cells (nums .i64 (polyTo l0 n 0)).toArray 2 (0, 0)) := by
  rw [hw0]
  repeat (first | exact new_at (by simp) | refine blk_alloc ?_ _ | refine blk_drewN ?_ _)
 have hB0 : Below w.heap.size w w0 := by
  rw [hw0]
  repeat (first | exact Below.refl _ _ | apply below_alloc | apply pw_below_drewN)
 rw [← hw0]
 have HE := Aside0.mk hE
 have HV := Aside0.mk hV
 have HB0 := Aside0.mk hB0
 clear hw0 hE hV hB0 hmk
 refine (sets_interlace l0 A0 c0 n (2 ^ n) HN.out HLE.out rfl HC.out w.heap.size (w.heap.size + 1 + 1) (w.heap.size + 1) (polyTo l0 n) w0 HE.out.rd HE.out.lt (fun s A c w1 hs hg hh hF hc => ?_) HV.out).mono ?_
 ·obtain ⟨hiw, hil⟩ := inner_ok HW.out HN.out s
  obtain ⟨hco, hcn, _⟩ := co_ok HW.out HN.out s
  obtain ⟨kr, hkr⟩ := Ev.rounds (irows_ev _ hiw)
  have hok : okL (l0.filter (inSet s n)) = true := okL_of (by have := List.length_filter_le (inSet s n) l0; have := HLE.out; omega) (fun x hx => by
   obtain ⟨i, hi, rfl⟩ := (HW.out.mem x).1 (List.mem_filter.1 hx).1
   have := HLE.out
   have : i = 0 ∨ i = 1 ∨ i = 2 ∨ i = 3 ∨ i = 4 ∨ i = 5 := by omega
   rcases this with rfl | rfl | rfl | rfl | rfl | rfl <;> rfl)
  have hs64 : s < 64 := Nat.lt_of_lt_of_le hs (Nat.le_trans (Nat.pow_le_pow_right (by decide) hn6) (by decide))
  exact interlace_1 l0 (ints (setTo s n)) (inSet s n) (rowsOf (innerOf l0 s n)) kr ((innerOf l0 s n).length / 2) (rkC (rowsOf (innerOf l0 s n))) (coOf l0 s n) n (polyTo l0 n s) A0 A c0 c _ _ _ w1 (HE.out.grows hg) HC.out HLE.out hF hc hok
   (fun x => by
    obtain ⟨k, hk⟩ := Ev.rounds (contains_ev (ints (setTo s n)) x (by rw [ints_len]; have := setTo_le s n; omega))
    exact ⟨k, hk⟩)
   hkr (rows_bits _) (rows_length _) (by have := hiw.le; omega) (rkC_rank (rows_bits _) (by have := hiw.le; omega)).1 hco (by omega) hcn hn6 (polyTo_len _ _ _)
   (fun i => by
    have h1 := polyTo_small l0 n (fun s => by have := (co_ok HW.out HN.out s).2.1; omega) s i
    have h2 := powC_small (coOf l0 s n) (by omega) i
    omega) hh
 rintro e w2 ⟨rfl, hg, hr⟩
 have hE2 := HE.out.grows hg
 have h2 := hE2.co
 have HG := Aside0.mk hg
 have HH := Aside0.mk hr
 clear hg hr hE2
 go_wp2
 go_ret
 refine ⟨_, rfl, ?_, Go.Proofs.Ytcnekpdoldljgaa.Mem.below_grown HB0.out HG.out (by omega)⟩
 have h3 := HH.out
 rw [HRR.out, interlaceV, ← HN.out]
 exact R_of_block h3 (by rw [polyTo_len]) (by unfold maxLen; omega) (by omega)
end Go.Proofs.Ytcnekpdoldljgaa.F
end
section
namespace Go.Proofs.Ytcnekpdoldljgaa.F
open Go.RowKit Go.Proofs.YtcnekpdoldljgaaW.PrintWords Go.Proofs.YtcnekpdoldljgaaW.PrintLast Go.Proofs.YtcnekpdoldljgaaW.PrintMore
attribute [local go_sem] max2_int min2_int max_two min_two max_three min_three max_four min_four   
set_option linter.unusedVariables false
set_option linter.unusedSimpArgs false
open Go.Proofs.Ytcnekpdoldljgaa.Mem Go.Shelf
attribute [local go_sem] Oper.semAt_some
def backTo (zs : List Int) : Nat → List (Nat × Int)
  | 0 => []
  | d + 1 => backTo zs d ++ [(zs.length - 1 - d, zs.getD (zs.length - 1 - d) 0)]
theorem backTo_len (zs : List Int) : ∀ d, (backTo zs d).length = d
  | 0 => rfl
  | d + 1 => by rw [backTo, List.length_append, backTo_len zs d]; rfl
def valS (x : Int) (pre : List (Nat × Int)) : Int := pre.foldl (fun s p => wrap64 (wrap64 (s * x) + p.2)) 0
theorem valS_snoc (x : Int) (pre : List (Nat × Int)) (p : Nat × Int) : valS x (pre ++ [p]) = wrap64 (wrap64 (valS x pre * x) + p.2) := by simp [valS]
def Kept_ (n₀ Bs : Nat) (W W' : World) : Prop := Below n₀ W W' ∧ W'.heap[Bs]? = W.heap[Bs]?
theorem keptB {n₀ Bs : Nat} {w : World} (hn : n₀ ≤ w.heap.size) (hB : Bs < w.heap.size) (W : World) (l : Nat) (o o' : Obj) (hl : w.heap.size ≤ l) (h : W.heap[l]? = some o) (h1 : o.isCells = false) (h2 : o.isWalk = false) : Kept_ n₀ Bs W (W.putObj l o') :=
  ⟨belowK_b hn W l o o' hl h h1 h2, World.putObj_heap_other (by omega)⟩
set_option maxRecDepth 100000 in
set_option maxHeartbeats 4000000 in
theorem back1_in (F : Fence) (n : Nat) (hF : F.fn 177) (hro : F.round = none) (hn : 1 ≤ n) (l Bs : Nat) (w : World) (A : Option Addr) (len cap : Nat) (zs : List Int) (hlen : len = zs.length) (hreach : len ≤ 17592186044416) (hC : Kd.C (Kd.int .i64) w A len zs) (J Jx : List (Nat × Int) → World → Prop)
    (hY : ∀ pre x W, J pre W → pre.length < len → YieldAt F (n - 1) Try.prog l #[.int .i64 ((x.1 : Nat) : Int), .int .i64 x.2] W fun e W' =>
      (e = .returned (.bool true) ∧ J (pre ++ [x]) W' ∧ Kept_ w.heap.size Bs W W') ∨ (e = .returned (.bool false) ∧ Jx (pre ++ [x]) W'))
    (W : World) (hW : Below w.heap.size w W) (hBs : Boxed W Bs 24 (.slice A len cap)) (h0 : J [] W) :
    CallsIn F n Try.prog 177 #[.func (.yield l) #[] #[], .pointer (some ⟨Bs, 0, none⟩)] W fun e W' => (∃ v, e = .returned v) ∧
      ((∃ ys, ys = backTo zs len ∧ J ys W') ∨ (∃ pre, True ∧ Jx pre W')) := by
  have HC := Aside0.mk hC
  have HLEN := Aside0.mk hlen
  have hb := hBs.cell
  have HBX := Aside0.mk hBs
  have HW := Aside0.mk hW
  have HY := Aside0.mk hY
  have e0 : wrap64 ((len : Int) - 1) = (len : Int) - 1 := by unfold wrap64; omega
  clear hC hlen hBs hW hY
  refine callsIn_of_wp Try.func177 rfl hF ?_ hro
  simp only [Try.ntmps177, List.size_toArray, List.length_cons, List.length_nil, Nat.reduceAdd, Nat.reduceSub, Array.replicate_succ, Array.replicate_zero, List.push_toArray, List.append_toArray, List.nil_append, List.cons_append]
  gi_wp2
  gi_loopw [3] (fun i wr => ∃ d k : Nat, d + k = len ∧ i = .int .i64 ((k : Int) - 1) ∧ J (backTo zs d) wr ∧ Aside0 (Kept_ w.heap.size Bs W wr))
    (fun i _ => (intOf i + 1).toNat)
  case atStart => exact ⟨0, len, by omega, by simp [e0], h0, ⟨⟨Below.refl _ _, rfl⟩⟩⟩
  case round =>
    obtain ⟨d, k, hk, rfl, hJs, HK⟩ := hrel
    have hb2 : wr.cell? ⟨Bs, 0, none⟩ = some (.slice A len cap) := (show Boxed wr Bs _ _ from HK.out.2.trans HBX.out).cell
    cases k with
    | zero =>
      have e : (((0 : Nat) : Int) - 1) = -1 := rfl
      rw [e]
      obtain rfl : d = len := by omega
      gi_wp2
      go_end0
      exact ⟨⟨_, rfl⟩, .inl ⟨_, rfl, hJs⟩⟩
    | succ k' =>
      have e : (((k' + 1 : Nat) : Int) - 1) = (k' : Int) := by omega
      rw [e]
      obtain ⟨ad, rfl, hc⟩ := cell_of_C (Kd.C_below HC.out (HW.out.trans HK.out.1)) k' (by omega)
      have e1 : wrap64 ((k' : Int) - 1) = (k' : Int) - 1 := by unfold wrap64; omega
      have hcm : backTo zs (d + 1) = backTo zs d ++ [(k', zs[k']?.getD 0)] := by
        rw [backTo, show zs.length - 1 - d = k' from by have := HLEN.out; omega, List.getD_eq_getElem?_getD]
      have HCM := Aside0.mk hcm
      clear hcm
      obtain ⟨fn, tmps, assign, body, hy, hR⟩ := HY.out _ (k', zs[k']?.getD 0) wr hJs (by rw [backTo_len]; omega)
      dsimp only at hy
      gi_wp2
      refine hR.mono ?_
      rintro e W3 (⟨rfl, hJ3, hk3⟩ | ⟨rfl, hJx3⟩)
      · gi_wp2
        go_roundw
        case rel => exact ⟨d + 1, k', by omega, (by first | rfl | simp [e1]), by rw [HCM.out]; exact hJ3, ⟨⟨HK.out.1.trans hk3.1, hk3.2.trans HK.out.2⟩⟩⟩
        case measure => simp [intOf]
      · gi_wp2
        refine bodyPost_ret (results_none rfl _ _ _) rfl ?_
        exact ⟨⟨_, rfl⟩, .inr ⟨_, trivial, hJx3⟩⟩
set_option maxHeartbeats 2000000 in
theorem back_in (F : Fence) (n : Nat) (hF : F.fn 150) (hro : F.round = none) (a : Option Addr) (len cap : Nat) (w : World) :
    CallsIn F n Try.prog 150 #[.slice a len cap] w fun e w' => e = .returned (.func (.func 177) #[] #[.pointer (some ⟨w.heap.size, 0, none⟩)]) ∧ w' = w.alloc (.cells #[.slice a len cap] 24) := by
  refine callsIn_of_wp Try.func150 rfl hF ?_ hro
  simp only [Try.ntmps150, List.size_toArray, List.length_cons, List.length_nil, Nat.reduceAdd, Nat.reduceSub, Array.replicate_succ, Array.replicate_zero, List.push_toArray, List.append_toArray, List.nil_append, List.cons_append]
  gi_wp2
  go_ret
  exact ⟨rfl, rfl⟩
def impl_valueAt.f (l0 : List Int) (a1 : Int) : Option Int := if l0.length ≤ 17592186044416 then some (valS a1 (backTo l0 l0.length)) else none
set_option maxHeartbeats 4000000 in
set_option maxRecDepth 100000 in
theorem impl_valueAt.calls (A0 : Option Addr) (c0 : Nat) (l0 : List Int) (a1 : Int) (r : Int) (w : World) (hr0 : Kd.C (Kd.int .i64) w A0 l0.length l0) (hc0 : l0.length ≤ c0) (h : impl_valueAt.f l0 a1 = some r) :
    Calls Try.prog 84 #[.slice A0 l0.length c0, .int .i64 a1] w fun e w' => e = .returned (.int .i64 r) ∧ Below w.heap.size w w' := by
  unfold impl_valueAt.f at h
  by_cases hk : l0.length ≤ 17592186044416
  rotate_left
  · rw [if_neg hk] at h; exact absurd h (by simp)
  rw [if_pos hk] at h
  have hr : r = valS a1 (backTo l0 l0.length) := (Option.some.inj h).symm
  subst hr
  refine (callsIn_wide (n := 3)).1 ?_
  refine callsIn_of_wp_marks Try.func84 rfl trivial ?_ rfl
  simp only [Try.ntmps84, List.size_toArray, List.length_cons, List.length_nil, Nat.reduceAdd, Nat.reduceSub, Array.replicate_succ, Array.replicate_zero, List.push_toArray, List.append_toArray, List.nil_append, List.cons_append]
  gi_wp2_with (first
    | (refine ⟨trivial, ?_⟩; gi_at_call 150; refine (back_in Fence.wide 2 trivial rfl _ _ _ _).mono ?_; rintro e w' ⟨rfl, rfl⟩)
    | (gi_at_call 150; refine (back_in Fence.wide 2 trivial rfl _ _ _ _).mono ?_; rintro e w' ⟨rfl, rfl⟩))
  have bX := ((Boxed.new w 2 (.int .i64 a1)).alloc (.cells #[.int .i64 0] 2)).alloc (.cells #[.slice A0 l0.length c0] 24)
  have bO := (Boxed.new (w.alloc (.cells #[.int .i64 a1] 2)) 2 (.int .i64 0)).alloc (.cells #[.slice A0 l0.length c0] 24)
  have bS := Boxed.new ((w.alloc (.cells #[.int .i64 a1] 2)).alloc (.cells #[.int .i64 0] 2)) 24 (.slice A0 l0.length c0)
  have hB0 : Below w.heap.size w (((w.alloc (.cells #[.int .i64 a1] 2)).alloc (.cells #[.int .i64 0] 2)).alloc (.cells #[.slice A0 l0.length c0] 24)) := below_alloc (below_alloc (below_alloc (Below.refl _ _) _) _) _
  rw [World.size_alloc] at bO bS
  rw [World.size_alloc] at bS
  have hsz : (((w.alloc (.cells #[.int .i64 a1] 2)).alloc (.cells #[.int .i64 0] 2)).alloc (.cells #[.slice A0 l0.length c0] 24)).heap.size = w.heap.size + 1 + 1 + 1 := by simp
  generalize hW1 : (((w.alloc (.cells #[.int .i64 a1] 2)).alloc (.cells #[.int .i64 0] 2)).alloc (.cells #[.slice A0 l0.length c0] 24)) = W1 at bX bO bS hB0 hsz ⊢
  have stops : SeqStopsK Fence.wide (3 - 1) Try.prog 177 #[.pointer (some ⟨w.heap.size + 1 + 1, 0, none⟩)] (fun x : Nat × Int => #[Value.int .i64 ((x.1 : Nat) : Int), Value.int .i64 x.2]) (Kept_ w.heap.size (w.heap.size + 1 + 1)) (fun ys => ys = backTo l0 l0.length) (fun _ => True) l0.length W1 := fun l J Jx W hW _ _ hY h0 =>
    back1_in Fence.wide 2 trivial rfl (by omega) l _ w A0 _ c0 l0 rfl hk hr0 J Jx hY W (hB0.trans (hW.mono (by omega))) ((hW.block _ bS.lt).trans bS) h0
  have ne_of : ∀ {A : World} {B : Nat} {t : TypeId} {v : Value} {row : Option Nat}, Boxed A B t v → (∀ r, row = some r → ∃ o : Obj, A.heap[r]? = some o ∧ o.isCells = false) → some B ≠ row := fun {A B t v row} hb hr e => by
    obtain ⟨o, ho, hc⟩ := hr _ e.symm
    rw [show A.heap[B]? = _ from hb] at ho
    cases ho; cases hc
  refine wpIn_rangeFunc_ownG rfl (by omega) (gf := 177) (lb := #[.pointer (some ⟨w.heap.size + 1 + 1, 0, none⟩)]) rfl trivial (enters_of Try.func177 (by kernel_rfl) rfl)
    stops (fun h k => ⟨h.1.trans k.1, k.2.trans h.2⟩) (keptB (by omega) bS.lt) (Below.refl _ _) (fun _ => rfl)
    (fun pre W => (Boxed W (w.heap.size + 1) 2 (.int .i64 (valS a1 pre)) ∧ Boxed W w.heap.size 2 (.int .i64 a1) ∧ Boxed W (w.heap.size + 1 + 1) 24 (.slice A0 l0.length c0)) ∧ Below w.heap.size w W)
    (fun _ _ _ => False)
    (OwnFrom.and (Own.from (fun s A B row hs hg hr => ⟨hs.1.kept hg (ne_of hs.1 hr), hs.2.1.kept hg (ne_of hs.2.1 hr), hs.2.2.kept hg (ne_of hs.2.2 hr)⟩) _) (ownFrom_below (Nat.le_refl _) (by omega)))
    (fun _ _ _ _ _ hs _ _ => hs)
    ⟨⟨bO, bX, bS⟩, hB0⟩
    (fun x => { tmps := #[.slice A0 l0.length c0, .int .i64 a1, undef, .pointer (some ⟨w.heap.size, 0, none⟩), .int .i64 0, .pointer (some ⟨w.heap.size + 1, 0, none⟩), undef, .int .i64 x.2, .slice A0 l0.length c0, .func (.func 177) #[] #[.pointer (some ⟨w.heap.size + 1 + 1, 0, none⟩)], .int .i64 ((x.1 : Nat) : Int), .int .i64 x.2, undef, undef, undef, undef, undef, undef], defers := [] }) ?assign ?body ?done ?stop
  case assign =>
    intro l x W K hK
    gi_wp2
    exact hK
  case body =>
    rintro l pre x W ⟨⟨hO, hX, hS⟩, hB⟩ _
    have hc := hO.cell
    have hf := hO.frozen
    have hcx := hX.cell
    have HO := Aside0.mk hO
    have HX := Aside0.mk hX
    have HS := Aside0.mk hS
    have HB := Aside0.mk hB
    clear hO hX hS hB
    gi_wp2
    have hg : W.grownBy (W.setCell ⟨w.heap.size + 1, 0, none⟩ (.int .i64 (wrap64 (wrap64 (valS a1 pre * a1) + x.2)))) (some (w.heap.size + 1)) := grown_set (grown_refl W _) 0 _
    exact ⟨(KeepsOthers.setCell _ _ _).from _, ⟨(Below.refl w.heap.size W).setCell (p := ⟨w.heap.size + 1, 0, none⟩) (Nat.le_succ _) _, hg.block _ HS.out.lt (by simp)⟩, ⟨by rw [valS_snoc]; exact HO.out.set _, HX.out.kept hg (by simp), HS.out.kept hg (by simp)⟩, HB.out.setCell (p := ⟨w.heap.size + 1, 0, none⟩) (Nat.le_succ _) _⟩
  case done =>
    rintro D ys W hD rfl ⟨⟨hO, _, _⟩, hB⟩ hK
    have hc := hO.cell
    have HB := Aside0.mk hB
    clear hO hB
    gi_wp2
    refine ⟨by simp, .inl ⟨_, _, rfl, run_takeDeferred hK, ?_⟩⟩
    exact ⟨_, results_tmp rfl _ _ _, rfl, HB.out.trans (belowK_b (w := w) (Nat.le_refl _) W D _ _ (by omega) hK rfl rfl)⟩
  case stop =>
    rintro D c pre W _ _ h _
    exact h.elim
end Go.Proofs.Ytcnekpdoldljgaa.F
end
section
namespace Go.Proofs.Ytcnekpdoldljgaa.F
open Go.RowKit Go.Proofs.YtcnekpdoldljgaaW.PrintWords Go.Proofs.YtcnekpdoldljgaaW.PrintLast Go.Proofs.YtcnekpdoldljgaaW.PrintMore
attribute [local go_sem] max2_int min2_int max_two min_two max_three min_three max_four min_four   
set_option linter.unusedVariables false
set_option linter.unusedSimpArgs false
def impl_ValueOfInterlace.f (k : Nat) (l0 : List Int) (a1 : Int) : Option (Int × Int) := (impl_IsWord.f k l0).bind fun t411001 => (if t411001 = true then ((impl_in.f a1 (-100) 100).bind fun t411002 => (if t411002 = true then ((impl_interlace.f l0).bind fun t411003 => ((impl_valueAt.f t411003 a1).bind fun t411006 => (some (t411006, 0)))) else (some (0, 2)))) else (some (0, 1)))
theorem impl_ValueOfInterlace.mono : ∀ a0 a1 k, LeO (impl_ValueOfInterlace.f k a0 a1) (impl_ValueOfInterlace.f (k + 1) a0 a1) := by
  intro a0 a1 k
  unfold impl_ValueOfInterlace.f
  repeat' first
      | (with_reducible exact impl_IsWord.mono _ _)
      | (with_reducible exact LeO.refl _)
      | (with_reducible exact LeO.none _)
      | (with_reducible refine LeO.ite ?_ ?_)
      | (with_reducible refine LeO.bind ?_ (fun _ => ?_))
      | exact impl_IsWord.mono _ _
      | exact LeO.none _
      | refine LeO.ite ?_ ?_
      | refine LeO.bind ?_ (fun _ => ?_)
set_option maxHeartbeats 8000000 in
set_option maxRecDepth 100000 in
theorem impl_ValueOfInterlace.calls (k : Nat) (A0 : Option Addr) (c0 : Nat) (l0 : List Int) (a1 : Int) (r1 : Int) (r2 : Int) (w : World) (hr0 : Kd.C (Kd.int .i64) w A0 l0.length l0) (hc0 : l0.length ≤ c0) (h : impl_ValueOfInterlace.f k l0 a1 = some (r1, r2)) :
    Calls Try.prog 41 #[.slice A0 l0.length c0, .int .i64 a1] w fun e w' => e = .returned (.tuple #[.int .i64 r1, .int .i64 r2]) ∧ Below w.heap.size w w' := by
  have HR0 := Aside0.mk hr0
  have HC0 := Aside0.mk hc0
  clear hr0 hc0
  have HB := Aside0.mk (Below.refl w.heap.size w)
  have H : ((impl_IsWord.f k l0).bind fun t411001 => (if t411001 = true then ((impl_in.f a1 (-100) 100).bind fun t411002 => (if t411002 = true then ((impl_interlace.f l0).bind fun t411003 => ((impl_valueAt.f t411003 a1).bind fun t411006 => (some (t411006, 0)))) else (some (0, 2)))) else (some (0, 1)))) = some (r1, r2) := h
  clear h
  replace H := Option.bind_eq_some_iff.mp H
  obtain ⟨t411001, A30, H⟩ := H
  replace H : (if t411001 = true then ((impl_in.f a1 (-100) 100).bind fun t411002 => (if t411002 = true then ((impl_interlace.f l0).bind fun t411003 => ((impl_valueAt.f t411003 a1).bind fun t411006 => (some (t411006, 0)))) else (some (0, 2)))) else (some (0, 1))) = some (r1, r2) := H
  have A3 := Aside0.mk A30
  clear A30
  by_cases c4 : t411001 = true
  rotate_left
  · replace c4 := Bool.eq_false_iff.mpr c4
    subst c4
    have H1 : (some (0, 1)) = some (r1, r2) := by rw [if_neg (show ¬ (false = true) by decide)] at H; exact H
    clear H
    have H := H1
    clear H1
    simp only [Option.some.injEq, Prod.mk.injEq] at H
    obtain ⟨rfl, rfl⟩ := H
    go_enter Try.func41, Try.ntmps41
    go_wp2_with (first | ((with_reducible refine gate_callee (f := 59) rfl ?_); refine goesL_ (some 8) rfl rfl Try.func59 (by kernel_rfl) rfl #[.slice A0 l0.length c0] rfl (by (try simp only [List.map_toArray, List.map_cons, List.map_nil]); first | done | rfl | (simp only [List.length_drop, List.length_take]; rfl)) ?_; (with_reducible refine (impl_IsWord.calls k _ _ l0 false _ ?side1 ?side2 A3.out).mono ?_); (case side1 => repeat (first | exact HR0.out | (with_reducible refine Kd.C_alloc ?_ _) | (with_reducible refine Kd.C_drewN ?_ _) | (with_reducible refine Kd.C_drew ?_))); (case side2 => exact HC0.out); rintro e w14 ⟨rfl, hb⟩; refine ⟨_, rfl, ?_⟩; have n0_ := Aside0.mk (below_step (by repeat (first | (with_reducible first | exact HB.out | apply below_alloc | apply pw_below_drewN | apply below_drew1) | exact HB.out)) hb); clear HB; have HB := n0_; clear n0_; (try clear hb); (try clear hb2); (try clear hk); (try clear hi)))
    go_ret2
    exact ⟨by first | rfl | (simp [errW_none, errW_some] <;> rfl) | (simp [*, errW_none, errW_some] <;> rfl), by repeat (first | (with_reducible first | exact HB.out | apply below_alloc | apply pw_below_drewN | apply below_drew1) | exact HB.out)⟩
  subst c4
  have H1 : ((impl_in.f a1 (-100) 100).bind fun t411002 => (if t411002 = true then ((impl_interlace.f l0).bind fun t411003 => ((impl_valueAt.f t411003 a1).bind fun t411006 => (some (t411006, 0)))) else (some (0, 2)))) = some (r1, r2) := by rw [if_pos rfl] at H; exact H
  clear H
  have H := H1
  clear H1
  replace H := Option.bind_eq_some_iff.mp H
  obtain ⟨t411002, A50, H⟩ := H
  replace H : (if t411002 = true then ((impl_interlace.f l0).bind fun t411003 => ((impl_valueAt.f t411003 a1).bind fun t411006 => (some (t411006, 0)))) else (some (0, 2))) = some (r1, r2) := H
  have A5 := Aside0.mk A50
  clear A50
  by_cases c6 : t411002 = true
  rotate_left
  · replace c6 := Bool.eq_false_iff.mpr c6
    subst c6
    have H1 : (some (0, 2)) = some (r1, r2) := by rw [if_neg (show ¬ (false = true) by decide)] at H; exact H
    clear H
    have H := H1
    clear H1
    simp only [Option.some.injEq, Prod.mk.injEq] at H
    obtain ⟨rfl, rfl⟩ := H
    go_enter Try.func41, Try.ntmps41
    go_wp2_with (first | ((with_reducible refine gate_callee (f := 59) rfl ?_); refine goesL_ (some 8) rfl rfl Try.func59 (by kernel_rfl) rfl #[.slice A0 l0.length c0] rfl (by (try simp only [List.map_toArray, List.map_cons, List.map_nil]); first | done | rfl | (simp only [List.length_drop, List.length_take]; rfl)) ?_; (with_reducible refine (impl_IsWord.calls k _ _ l0 true _ ?side1 ?side2 A3.out).mono ?_); (case side1 => repeat (first | exact HR0.out | (with_reducible refine Kd.C_alloc ?_ _) | (with_reducible refine Kd.C_drewN ?_ _) | (with_reducible refine Kd.C_drew ?_))); (case side2 => exact HC0.out); rintro e w13 ⟨rfl, hb⟩; refine ⟨_, rfl, ?_⟩; have n0_ := Aside0.mk (below_step (by repeat (first | (with_reducible first | exact HB.out | apply below_alloc | apply pw_below_drewN | apply below_drew1) | exact HB.out)) hb); clear HB; have HB := n0_; clear n0_; (try clear hb); (try clear hb2); (try clear hk); (try clear hi)) | ((with_reducible refine gate_callee (f := 62) rfl ?_); refine goesL_ (some 12) rfl rfl Try.func62 (by kernel_rfl) rfl #[.int .i64 a1, .int .i64 (-100), .int .i64 100] rfl (by (try simp only [List.map_toArray, List.map_cons, List.map_nil]); first | done | rfl | (simp only [List.length_drop, List.length_take]; rfl)) ?_; (with_reducible refine (impl_in.calls a1 (-100) 100 false _ A5.out).mono ?_); rintro e w' ⟨rfl, ⟨nd, rfl⟩⟩; refine ⟨_, rfl, ?_⟩))
    go_ret2
    exact ⟨by first | rfl | (simp [errW_none, errW_some] <;> rfl) | (simp [*, errW_none, errW_some] <;> rfl), by repeat (first | (with_reducible first | exact HB.out | apply below_alloc | apply pw_below_drewN | apply below_drew1) | exact HB.out)⟩
  subst c6
  have H1 : ((impl_interlace.f l0).bind fun t411003 => ((impl_valueAt.f t411003 a1).bind fun t411006 => (some (t411006, 0)))) = some (r1, r2) := by rw [if_pos rfl] at H; exact H
  clear H
  have H := H1
  clear H1
  replace H := Option.bind_eq_some_iff.mp H
  obtain ⟨t411003, A70, H⟩ := H
  replace H : ((impl_valueAt.f t411003 a1).bind fun t411006 => (some (t411006, 0))) = some (r1, r2) := H
  have A7 := Aside0.mk A70
  clear A70
  replace H := Option.bind_eq_some_iff.mp H
  obtain ⟨t411006, A80, H⟩ := H
  replace H : (some (t411006, 0)) = some (r1, r2) := H
  have A8 := Aside0.mk A80
  clear A80
  simp only [Option.some.injEq, Prod.mk.injEq] at H
  obtain ⟨rfl, rfl⟩ := H
  go_enter Try.func41, Try.ntmps41
  go_wp2_with (first | ((with_reducible refine gate_callee (f := 59) rfl ?_); refine goesL_ (some 8) rfl rfl Try.func59 (by kernel_rfl) rfl #[.slice A0 l0.length c0] rfl (by (try simp only [List.map_toArray, List.map_cons, List.map_nil]); first | done | rfl | (simp only [List.length_drop, List.length_take]; rfl)) ?_; (with_reducible refine (impl_IsWord.calls k _ _ l0 true _ ?side1 ?side2 A3.out).mono ?_); (case side1 => repeat (first | exact HR0.out | (with_reducible refine Kd.C_alloc ?_ _) | (with_reducible refine Kd.C_drewN ?_ _) | (with_reducible refine Kd.C_drew ?_))); (case side2 => exact HC0.out); rintro e w9 ⟨rfl, hb⟩; refine ⟨_, rfl, ?_⟩; have n0_ := Aside0.mk (below_step (by repeat (first | (with_reducible first | exact HB.out | apply below_alloc | apply pw_below_drewN | apply below_drew1) | exact HB.out)) hb); clear HB; have HB := n0_; clear n0_; (try clear hb); (try clear hb2); (try clear hk); (try clear hi)) | ((with_reducible refine gate_callee (f := 62) rfl ?_); refine goesL_ (some 12) rfl rfl Try.func62 (by kernel_rfl) rfl #[.int .i64 a1, .int .i64 (-100), .int .i64 100] rfl (by (try simp only [List.map_toArray, List.map_cons, List.map_nil]); first | done | rfl | (simp only [List.length_drop, List.length_take]; rfl)) ?_; (with_reducible refine (impl_in.calls a1 (-100) 100 true _ A5.out).mono ?_); rintro e w' ⟨rfl, ⟨nd, rfl⟩⟩; refine ⟨_, rfl, ?_⟩) | ((with_reducible refine gate_callee (f := 82) rfl ?_); refine goesL_ (some 15) rfl rfl Try.func82 (by kernel_rfl) rfl #[.slice A0 l0.length c0] rfl (by (try simp only [List.map_toArray, List.map_cons, List.map_nil]); first | done | rfl | (simp only [List.length_drop, List.length_take]; rfl)) ?_; (with_reducible refine (impl_interlace.calls _ _ l0 t411003 _ ?side1 ?side2 A7.out).mono ?_); (case side1 => repeat (first | exact (Kd.C_below HR0.out (by repeat (first | (with_reducible first | exact HB.out | apply below_alloc | apply pw_below_drewN | apply below_drew1) | exact HB.out))) | (with_reducible refine Kd.C_alloc ?_ _) | (with_reducible refine Kd.C_drewN ?_ _) | (with_reducible refine Kd.C_drew ?_))); (case side2 => exact HC0.out); rintro e w10 ⟨v411004, rfl, ho0, hb⟩; refine ⟨_, rfl, ?_⟩; have n0_ := Aside0.mk (Kd.R_lower ho0 (below_size (by repeat (first | (with_reducible first | exact HB.out | apply below_alloc | apply pw_below_drewN | apply below_drew1) | exact HB.out)))); have n1_ := Aside0.mk (below_step (by repeat (first | (with_reducible first | exact HB.out | apply below_alloc | apply pw_below_drewN | apply below_drew1) | exact HB.out)) hb); clear HB; have HO411005 := n0_; have HB := n1_; clear n0_ n1_; (try clear hb); (try clear hb2); (try clear hk); (try clear hi); (try clear ho0); obtain ⟨Ao11, co11, eo11⟩ := Kd.R_slice HO411005.out; subst eo11) | ((with_reducible refine gate_callee (f := 84) rfl ?_); refine goesL_ (some 17) rfl rfl Try.func84 (by kernel_rfl) rfl #[.slice Ao11 t411003.length co11, .int .i64 a1] rfl (by (try simp only [List.map_toArray, List.map_cons, List.map_nil]); first | done | rfl | (simp only [List.length_drop, List.length_take]; rfl)) ?_; (with_reducible refine (impl_valueAt.calls _ _ t411003 a1 t411006 _ ?side1 ?side2 A8.out).mono ?_); (case side1 => repeat (first | exact (Kd.R_reads' HO411005.out).2.2 | (with_reducible refine Kd.C_alloc ?_ _) | (with_reducible refine Kd.C_drewN ?_ _) | (with_reducible refine Kd.C_drew ?_))); (case side2 => exact (Kd.R_reads' HO411005.out).2.1); rintro e w12 ⟨rfl, hb⟩; refine ⟨_, rfl, ?_⟩; have n0_ := Aside0.mk (Kd.R_below (by (with_reducible repeat (first | apply Kd.R_alloc | apply Kd.R_drewN | apply Kd.R_drew)); exact HO411005.out) hb); have n1_ := Aside0.mk (below_step (by repeat (first | (with_reducible first | exact HB.out | apply below_alloc | apply pw_below_drewN | apply below_drew1) | exact HB.out)) hb); clear HO411005; clear HB; have HO411005 := n0_; have HB := n1_; clear n0_ n1_; (try clear hb); (try clear hb2); (try clear hk); (try clear hi)))
  go_ret2
  exact ⟨by first | rfl | (simp [errW_none, errW_some] <;> rfl) | (simp [*, errW_none, errW_some] <;> rfl), by repeat (first | (with_reducible first | exact HB.out | apply below_alloc | apply pw_below_drewN | apply below_drew1) | exact HB.out)⟩
end Go.Proofs.Ytcnekpdoldljgaa.F
end
section
namespace Go.Proofs.Ytcnekpdoldljgaa.F
open Go.RowKit Go.Proofs.YtcnekpdoldljgaaW.PrintWords Go.Proofs.YtcnekpdoldljgaaW.PrintLast Go.Proofs.YtcnekpdoldljgaaW.PrintMore
attribute [local go_sem] max2_int min2_int max_two min_two max_three min_three max_four min_four   
set_option linter.unusedVariables false
set_option linter.unusedSimpArgs false
def laws_FnExactValueOfInterlace.j0 : Nat → List Int → List Int → Bool → Option (Bool)
 | 0, _, _, _ => none
 | k + 1, x0, x7, x35 => if x35 = true then (some false) else ((laws_toInt64S.f k x0).bind fun t51011 => ((laws_eqInt64S.f k x7 t51011).bind fun t51014 => (if t51014 = true then (some true) else (some false))))
def laws_FnExactValueOfInterlace.f (k : Nat) (l0 : List Int) (a1 : Int) : Option (Bool) := if (l0.length : Int) > 1048576 then (some true) else ((laws_toInt64S.f k l0).bind fun t51001 => ((spec_ValueOfInterlace.f k t51001 a1).bind fun bt51004 => ((laws_toInt64S.f k l0).bind fun t51006 => ((impl_ValueOfInterlace.f k t51006 a1).bind fun bt51009 => (if bt51009.1 = bt51004.1 then (laws_FnExactValueOfInterlace.j0 k l0 t51006 (bt51009.2 != bt51004.2)) else (laws_FnExactValueOfInterlace.j0 k l0 t51006 true))))))
theorem laws_FnExactValueOfInterlace.mono_l : ∀ k, (∀ y0 y1 y2, LeO (laws_FnExactValueOfInterlace.j0 k y0 y1 y2) (laws_FnExactValueOfInterlace.j0 (k + 1) y0 y1 y2))
 | 0 => fun _ _ _ r h => by simp [laws_FnExactValueOfInterlace.j0] at h
 | k + 1 => by
  have ih0 := laws_FnExactValueOfInterlace.mono_l k
  ·intro y0 y1 y2
   unfold laws_FnExactValueOfInterlace.j0
   repeat' first
   | (with_reducible exact ih0 _ _ _)
   | (with_reducible exact impl_ValueOfInterlace.mono _ _ _)
   | (with_reducible exact laws_eqInt64S.mono _ _ _)
   | (with_reducible exact laws_toInt64S.mono _ _)
   | (with_reducible exact spec_ValueOfInterlace.mono _ _ _)
   | (with_reducible exact LeO.refl _)
   | (with_reducible exact LeO.none _)
   | (with_reducible refine LeO.ite ?_ ?_)
   | (with_reducible refine LeO.bind ?_ (fun _ => ?_))
   | exact ih0 _ _ _
   | exact impl_ValueOfInterlace.mono _ _ _
   | exact laws_eqInt64S.mono _ _ _
   | exact laws_toInt64S.mono _ _
   | exact spec_ValueOfInterlace.mono _ _ _
   | exact LeO.none _
   | refine LeO.ite ?_ ?_
   | refine LeO.bind ?_ (fun _ => ?_)
theorem laws_FnExactValueOfInterlace.mono : ∀ a0 a1 k, LeO (laws_FnExactValueOfInterlace.f k a0 a1) (laws_FnExactValueOfInterlace.f (k + 1) a0 a1) := by
 intro a0 a1 k
 have ih0 := laws_FnExactValueOfInterlace.mono_l k
 unfold laws_FnExactValueOfInterlace.f
 repeat' first
   | (with_reducible exact ih0 _ _ _)
   | (with_reducible exact impl_ValueOfInterlace.mono _ _ _)
   | (with_reducible exact laws_eqInt64S.mono _ _ _)
   | (with_reducible exact laws_toInt64S.mono _ _)
   | (with_reducible exact spec_ValueOfInterlace.mono _ _ _)
   | (with_reducible exact LeO.refl _)
   | (with_reducible exact LeO.none _)
   | (with_reducible refine LeO.ite ?_ ?_)
   | (with_reducible refine LeO.bind ?_ (fun _ => ?_))
   | exact ih0 _ _ _
   | exact impl_ValueOfInterlace.mono _ _ _
   | exact laws_eqInt64S.mono _ _ _
   | exact laws_toInt64S.mono _ _
   | exact spec_ValueOfInterlace.mono _ _ _
   | exact LeO.none _
   | refine LeO.ite ?_ ?_
   | refine LeO.bind ?_ (fun _ => ?_)
set_option maxHeartbeats 8000000 in
set_option maxRecDepth 100000 in
theorem laws_FnExactValueOfInterlace.calls (k : Nat) (A0 : Option Addr) (c0 : Nat) (l0 : List Int) (a1 : Int) (r : Bool) (w : World) (hr0 : Kd.C (Kd.int .i64) w A0 l0.length l0) (hc0 : l0.length ≤ c0) (h : laws_FnExactValueOfInterlace.f k l0 a1 = some r) :
  Calls Try.prog 5 #[.slice A0 l0.length c0, .int .i64 a1] w fun e w' => e = .returned (.bool r) ∧ Below w.heap.size w w' := by
 have HR0 := Aside0.mk hr0
 have HC0 := Aside0.mk hc0
 clear hr0 hc0
 have HB := Aside0.mk (Below.refl w.heap.size w)
 have H : (if (l0.length : Int) > 1048576 then (some true) else ((laws_toInt64S.f k l0).bind fun t51001 => ((spec_ValueOfInterlace.f k t51001 a1).bind fun bt51004 => ((laws_toInt64S.f k l0).bind fun t51006 => ((impl_ValueOfInterlace.f k t51006 a1).bind fun bt51009 => (if bt51009.1 = bt51004.1 then (laws_FnExactValueOfInterlace.j0 k l0 t51006 (bt51009.2 != bt51004.2)) else (laws_FnExactValueOfInterlace.j0 k l0 t51006 true))))))) = some r := h
 clear h
 by_cases c3 : (l0.length : Int) > 1048576
 ·rw [if_pos c3] at H
  have c3b0 : decide (1048576 < (l0.length : Int)) = true := decide_eq_true c3
  have c3b1 : decide (1048576 < l0.length) = true := decide_eq_true (by omega)
  clear c3
  obtain rfl := Option.some.inj H
  go_enter Try.func5, Try.ntmps5
  go_wp2
  go_ret
  exact ⟨by first | rfl | (simp [errW_none, errW_some] <;> rfl) | (simp [*, errW_none, errW_some] <;> rfl), by repeat (first | (with_reducible first | exact HB.out | apply below_alloc | apply pw_below_drewN | apply below_drew1) | exact HB.out)⟩
 rw [if_neg c3] at H
 have c3b0 : decide (1048576 < (l0.length : Int)) = false := decide_eq_false c3
 have c3b1 : decide (1048576 < l0.length) = false := decide_eq_false (by omega)
 clear c3
 replace H := Option.bind_eq_some_iff.mp H
 obtain ⟨t51001, A40, H⟩ := H
 replace H : ((spec_ValueOfInterlace.f k t51001 a1).bind fun bt51004 => ((laws_toInt64S.f k l0).bind fun t51006 => ((impl_ValueOfInterlace.f k t51006 a1).bind fun bt51009 => (if bt51009.1 = bt51004.1 then (laws_FnExactValueOfInterlace.j0 k l0 t51006 (bt51009.2 != bt51004.2)) else (laws_FnExactValueOfInterlace.j0 k l0 t51006 true))))) = some r := H
 have A4 := Aside0.mk A40
 clear A40
 replace H := Option.bind_eq_some_iff.mp H
 obtain ⟨⟨t51004, t51005⟩, A50, H⟩ := H
 replace H : ((laws_toInt64S.f k l0).bind fun t51006 => ((impl_ValueOfInterlace.f k t51006 a1).bind fun bt51009 => (if bt51009.1 = t51004 then (laws_FnExactValueOfInterlace.j0 k l0 t51006 (bt51009.2 != t51005)) else (laws_FnExactValueOfInterlace.j0 k l0 t51006 true)))) = some r := H
 have A5 := Aside0.mk A50
 clear A50
 replace H := Option.bind_eq_some_iff.mp H
 obtain ⟨t51006, A60, H⟩ := H
 replace H : ((impl_ValueOfInterlace.f k t51006 a1).bind fun bt51009 => (if bt51009.1 = t51004 then (laws_FnExactValueOfInterlace.j0 k l0 t51006 (bt51009.2 != t51005)) else (laws_FnExactValueOfInterlace.j0 k l0 t51006 true))) = some r := H
 have A6 := Aside0.mk A60
 clear A60
 replace H := Option.bind_eq_some_iff.mp H
 obtain ⟨⟨t51009, t51010⟩, A70, H⟩ := H
 replace H : (if t51009 = t51004 then (laws_FnExactValueOfInterlace.j0 k l0 t51006 (t51010 != t51005)) else (laws_FnExactValueOfInterlace.j0 k l0 t51006 true)) = some r := H
 have A7 := Aside0.mk A70
 clear A70
 have HC8 := Aside0.mk H
 clear H
 go_enter Try.func5, Try.ntmps5
 go_upto_region 6 with (first | ((with_reducible refine gate_callee (f := 35) rfl ?_); refine goesL_ (some 15) rfl rfl Try.func35 (by kernel_rfl) rfl #[.slice A0 l0.length c0] rfl (by (try simp only [List.map_toArray, List.map_cons, List.map_nil]); first | done | rfl | (simp only [List.length_drop, List.length_take]; rfl)) ?_; (with_reducible refine (laws_toInt64S.calls k _ _ l0 t51001 _ ?side1 ?side2 A4.out).mono ?_); (case side1 => repeat (first | exact HR0.out | (with_reducible refine Kd.C_alloc ?_ _) | (with_reducible refine Kd.C_drewN ?_ _) | (with_reducible refine Kd.C_drew ?_))); (case side2 => exact HC0.out); rintro e w9 ⟨v51002, rfl, ho0, hb⟩; refine ⟨_, rfl, ?_⟩; have n0_ := Aside0.mk (Kd.R_lower ho0 (below_size (by repeat (first | (with_reducible first | exact HB.out | apply below_alloc | apply pw_below_drewN | apply below_drew1) | exact HB.out)))); have n1_ := Aside0.mk (below_step (by repeat (first | (with_reducible first | exact HB.out | apply below_alloc | apply pw_below_drewN | apply below_drew1) | exact HB.out)) hb); clear HB; have HO51003 := n0_; have HB := n1_; clear n0_ n1_; (try clear hb); (try clear hb2); (try clear hk); (try clear hi); (try clear ho0); obtain ⟨Ao10, co10, eo10⟩ := Kd.R_slice HO51003.out; subst eo10) | ((with_reducible refine gate_callee (f := 40) rfl ?_); refine goesL_ (some 17) rfl rfl Try.func40 (by kernel_rfl) rfl #[.slice Ao10 t51001.length co10, .int .i64 a1] rfl (by (try simp only [List.map_toArray, List.map_cons, List.map_nil]); first | done | rfl | (simp only [List.length_drop, List.length_take]; rfl)) ?_; (with_reducible refine (spec_ValueOfInterlace.calls k _ _ t51001 a1 t51004 t51005 _ ?side1 ?side2 A5.out).mono ?_); (case side1 => repeat (first | exact (Kd.R_reads' HO51003.out).2.2 | (with_reducible refine Kd.C_alloc ?_ _) | (with_reducible refine Kd.C_drewN ?_ _) | (with_reducible refine Kd.C_drew ?_))); (case side2 => exact (Kd.R_reads' HO51003.out).2.1); rintro e w11 ⟨rfl, hb⟩; refine ⟨_, rfl, ?_⟩; have n0_ := Aside0.mk (Kd.R_below (by (with_reducible repeat (first | apply Kd.R_alloc | apply Kd.R_drewN | apply Kd.R_drew)); exact HO51003.out) hb); have n1_ := Aside0.mk (below_step (by repeat (first | (with_reducible first | exact HB.out | apply below_alloc | apply pw_below_drewN | apply below_drew1) | exact HB.out)) hb); clear HO51003; clear HB; have HO51003 := n0_; have HB := n1_; clear n0_ n1_; (try clear hb); (try clear hb2); (try clear hk); (try clear hi)) | ((with_reducible refine gate_callee (f := 35) rfl ?_); refine goesL_ (some 21) rfl rfl Try.func35 (by kernel_rfl) rfl #[.slice A0 l0.length c0] rfl (by (try simp only [List.map_toArray, List.map_cons, List.map_nil]); first | done | rfl | (simp only [List.length_drop, List.length_take]; rfl)) ?_; (with_reducible refine (laws_toInt64S.calls k _ _ l0 t51006 _ ?side1 ?side2 A6.out).mono ?_); (case side1 => repeat (first | exact (Kd.C_below HR0.out HB.out) | (with_reducible refine Kd.C_alloc ?_ _) | (with_reducible refine Kd.C_drewN ?_ _) | (with_reducible refine Kd.C_drew ?_))); (case side2 => exact HC0.out); rintro e w12 ⟨v51007, rfl, ho0, hb⟩; refine ⟨_, rfl, ?_⟩; have n0_ := Aside0.mk (Kd.R_elder' (by (with_reducible repeat (first | apply Kd.R_alloc | apply Kd.R_drewN | apply Kd.R_drew)); exact HO51003.out) (Kd.R_base ho0) hb); have n1_ := Aside0.mk (Kd.R_lower (Kd.R_new' ho0 (Kd.R_lt (by (with_reducible repeat (first | apply Kd.R_alloc | apply Kd.R_drewN | apply Kd.R_drew)); exact HO51003.out))) (below_size (by repeat (first | (with_reducible first | exact HB.out | apply below_alloc | apply pw_below_drewN | apply below_drew1) | exact HB.out)))); have n2_ := Aside0.mk (below_step (by repeat (first | (with_reducible first | exact HB.out | apply below_alloc | apply pw_below_drewN | apply below_drew1) | exact HB.out)) hb); clear HO51003; clear HB; have HO51003 := n0_; have HO51008 := n1_; have HB := n2_; clear n0_ n1_ n2_; (try clear hb); (try clear hb2); (try clear hk); (try clear hi); (try clear ho0); obtain ⟨Ao13, co13, eo13⟩ := Kd.R_slice HO51008.out; subst eo13) | ((with_reducible refine gate_callee (f := 41) rfl ?_); refine goesL_ (some 25) rfl rfl Try.func41 (by kernel_rfl) rfl #[.slice Ao13 t51006.length co13, .int .i64 a1] rfl (by (try simp only [List.map_toArray, List.map_cons, List.map_nil]); first | done | rfl | (simp only [List.length_drop, List.length_take]; rfl)) ?_; (with_reducible refine (impl_ValueOfInterlace.calls k _ _ t51006 a1 t51009 t51010 _ ?side1 ?side2 A7.out).mono ?_); (case side1 => repeat (first | exact (Kd.R_reads' HO51008.out).2.2 | (with_reducible refine Kd.C_alloc ?_ _) | (with_reducible refine Kd.C_drewN ?_ _) | (with_reducible refine Kd.C_drew ?_))); (case side2 => exact (Kd.R_reads' HO51008.out).2.1); rintro e w14 ⟨rfl, hb⟩; refine ⟨_, rfl, ?_⟩; have n0_ := Aside0.mk (Kd.R_below (by (with_reducible repeat (first | apply Kd.R_alloc | apply Kd.R_drewN | apply Kd.R_drew)); exact HO51003.out) hb); have n1_ := Aside0.mk (Kd.R_below (by (with_reducible repeat (first | apply Kd.R_alloc | apply Kd.R_drewN | apply Kd.R_drew)); exact HO51008.out) hb); have n2_ := Aside0.mk (below_step (by repeat (first | (with_reducible first | exact HB.out | apply below_alloc | apply pw_below_drewN | apply below_drew1) | exact HB.out)) hb); clear HO51003; clear HO51008; clear HB; have HO51003 := n0_; have HO51008 := n1_; have HB := n2_; clear n0_ n1_ n2_; (try clear hb); (try clear hb2); (try clear hk); (try clear hi)))
 (try simp only [Act.put, List.setIfInBounds_toArray, List.set_cons_zero, List.set_cons_succ])
 go_cut [35] (fun v35 wc => ∃ (kq : Nat) (x35_7 : Bool), v35 = .bool x35_7 ∧ Aside0 (laws_FnExactValueOfInterlace.j0 kq l0 t51006 x35_7 = some r) ∧ Aside0 (kq ≤ k) ∧ Aside0 (Kd.R (Kd.int .i64) 2 wc w.heap.size (fun _ => True) (.slice Ao13 t51006.length co13) t51006) ∧ Aside0 (Below w.heap.size w wc))
 case first =>
  have H := HC8.out
  clear HC8
  by_cases c15 : t51009 = t51004
  rotate_left
  ·rw [if_neg c15] at H
   have c15b0 : (t51009 == t51004) = false := beq_eq_false_iff_ne.mpr c15
   have c15b1 : (t51009 != t51004) = true := bne_iff_ne.mpr c15
   (first | rw [c15b0] | (simp only [i64_w, i32_w]; rw [c15b0]) | skip)
   have H' := Aside0.mk H
   clear H
   go_wp2
   go_meet
   case rel => exact ⟨_, (true), (by first | rfl | (simp; done) | (simp [*]; done)), H', ⟨by first | omega | exact Nat.le_refl _⟩, ⟨by (with_reducible repeat (first | apply Kd.R_alloc | apply Kd.R_drewN | apply Kd.R_drew)); exact Kd.R_mono HO51008.out (fun _ hk => trivial)⟩, ⟨by repeat (first | (with_reducible first | exact HB.out | apply below_alloc | apply pw_below_drewN | apply below_drew1) | exact HB.out)⟩⟩
  rw [if_pos c15] at H
  have c15b0 : (t51009 == t51004) = true := beq_iff_eq.mpr c15
  have c15b1 : (t51009 != t51004) = false := bne_eq_false_iff_eq.mpr c15
  clear c15
  (first | rw [c15b0] | (simp only [i64_w, i32_w]; rw [c15b0]) | skip)
  have H' := Aside0.mk H
  clear H
  go_wp2
  go_meet
  case rel => exact ⟨_, ((t51010 != t51005)), (by first | rfl | (simp; done) | (simp [*]; done)), H', ⟨by first | omega | exact Nat.le_refl _⟩, ⟨by (with_reducible repeat (first | apply Kd.R_alloc | apply Kd.R_drewN | apply Kd.R_drew)); exact Kd.R_mono HO51008.out (fun _ hk => trivial)⟩, ⟨by repeat (first | (with_reducible first | exact HB.out | apply below_alloc | apply pw_below_drewN | apply below_drew1) | exact HB.out)⟩⟩
 case rest =>
  clear HC8
  try clear c1
  try clear p2
  try clear c3
  try clear c3b0
  try clear c3b1
  try clear c4
  try clear c5
  try clear c15
  try clear c15b0
  try clear c15b1
  obtain ⟨kq, x35_7, rfl, HA, HJ7, HO_7, HB⟩ := hcut
  cases kq with
  | zero => exact absurd HA.out (by simp [laws_FnExactValueOfInterlace.j0])
  | succ kj7 =>
   have H := HA.out
   clear HA
   simp only [laws_FnExactValueOfInterlace.j0] at H
   by_cases c16 : x35_7 = true
   ·subst c16
    have H1 : (some false) = some r := by rw [if_pos rfl] at H; exact H
    clear H
    have H := H1
    clear H1
    obtain rfl := Option.some.inj H
    go_wp2
    go_ret
    exact ⟨by first | rfl | (simp [errW_none, errW_some] <;> rfl) | (simp [*, errW_none, errW_some] <;> rfl), by repeat (first | (with_reducible first | exact HB.out | apply below_alloc | apply pw_below_drewN | apply below_drew1) | exact HB.out)⟩
   replace c16 := Bool.eq_false_iff.mpr c16
   subst c16
   have H1 : ((laws_toInt64S.f kj7 l0).bind fun t51011 => ((laws_eqInt64S.f kj7 t51006 t51011).bind fun t51014 => (if t51014 = true then (some true) else (some false)))) = some r := by rw [if_neg (show ¬ (false = true) by decide)] at H; exact H
   clear H
   have H := H1
   clear H1
   replace H := Option.bind_eq_some_iff.mp H
   obtain ⟨t51011, A170, H⟩ := H
   replace H : ((laws_eqInt64S.f kj7 t51006 t51011).bind fun t51014 => (if t51014 = true then (some true) else (some false))) = some r := H
   have A17 := Aside0.mk A170
   clear A170
   replace H := Option.bind_eq_some_iff.mp H
   obtain ⟨t51014, A180, H⟩ := H
   replace H : (if t51014 = true then (some true) else (some false)) = some r := H
   have A18 := Aside0.mk A180
   clear A180
   by_cases c19 : t51014 = true
   ·subst c19
    have H1 : (some true) = some r := by rw [if_pos rfl] at H; exact H
    clear H
    have H := H1
    clear H1
    obtain rfl := Option.some.inj H
    go_wp2_with (first | ((with_reducible refine gate_callee (f := 35) rfl ?_); refine goesL_ (some 38) rfl rfl Try.func35 (by kernel_rfl) rfl #[.slice A0 l0.length c0] rfl (by (try simp only [List.map_toArray, List.map_cons, List.map_nil]); first | done | rfl | (simp only [List.length_drop, List.length_take]; rfl)) ?_; (with_reducible refine (laws_toInt64S.calls kj7 _ _ l0 t51011 _ ?side1 ?side2 A17.out).mono ?_); (case side1 => repeat (first | exact (Kd.C_below HR0.out HB.out) | (with_reducible refine Kd.C_alloc ?_ _) | (with_reducible refine Kd.C_drewN ?_ _) | (with_reducible refine Kd.C_drew ?_))); (case side2 => exact HC0.out); rintro e w20 ⟨v51012, rfl, ho0, hb⟩; refine ⟨_, rfl, ?_⟩; have n0_ := Aside0.mk (Kd.R_elder' (by (with_reducible repeat (first | apply Kd.R_alloc | apply Kd.R_drewN | apply Kd.R_drew)); exact HO_7.out) (Kd.R_base ho0) hb); have n1_ := Aside0.mk (Kd.R_lower (Kd.R_new' ho0 (Kd.R_lt (by (with_reducible repeat (first | apply Kd.R_alloc | apply Kd.R_drewN | apply Kd.R_drew)); exact HO_7.out))) (below_size (by repeat (first | (with_reducible first | exact HB.out | apply below_alloc | apply pw_below_drewN | apply below_drew1) | exact HB.out)))); have n2_ := Aside0.mk (below_step (by repeat (first | (with_reducible first | exact HB.out | apply below_alloc | apply pw_below_drewN | apply below_drew1) | exact HB.out)) hb); clear HO_7; clear HB; have HO_7 := n0_; have HO51013 := n1_; have HB := n2_; clear n0_ n1_ n2_; (try clear hb); (try clear hb2); (try clear hk); (try clear hi); (try clear ho0); obtain ⟨Ao21, co21, eo21⟩ := Kd.R_slice HO51013.out; subst eo21) | ((with_reducible refine gate_callee (f := 37) rfl ?_); refine goesL_ (some 39) rfl rfl Try.func37 (by kernel_rfl) rfl #[.slice Ao13 t51006.length co13, .slice Ao21 t51011.length co21] rfl (by (try simp only [List.map_toArray, List.map_cons, List.map_nil]); first | done | rfl | (simp only [List.length_drop, List.length_take]; rfl)) ?_; (with_reducible refine (laws_eqInt64S.calls kj7 _ _ t51006 _ _ t51011 true _ ?side1 ?side2 ?side3 ?side4 A18.out).mono ?_); (case side1 => repeat (first | exact (Kd.R_reads' HO_7.out).2.2 | (with_reducible refine Kd.C_alloc ?_ _) | (with_reducible refine Kd.C_drewN ?_ _) | (with_reducible refine Kd.C_drew ?_))); (case side2 => exact (Kd.R_reads' HO_7.out).2.1); (case side3 => repeat (first | exact (Kd.R_reads' HO51013.out).2.2 | (with_reducible refine Kd.C_alloc ?_ _) | (with_reducible refine Kd.C_drewN ?_ _) | (with_reducible refine Kd.C_drew ?_))); (case side4 => exact (Kd.R_reads' HO51013.out).2.1); rintro e w' ⟨rfl, ⟨nd, rfl⟩⟩; refine ⟨_, rfl, ?_⟩))
    go_ret
    exact ⟨by first | rfl | (simp [errW_none, errW_some] <;> rfl) | (simp [*, errW_none, errW_some] <;> rfl), by repeat (first | (with_reducible first | exact HB.out | apply below_alloc | apply pw_below_drewN | apply below_drew1) | exact HB.out)⟩
   replace c19 := Bool.eq_false_iff.mpr c19
   subst c19
   have H1 : (some false) = some r := by rw [if_neg (show ¬ (false = true) by decide)] at H; exact H
   clear H
   have H := H1
   clear H1
   obtain rfl := Option.some.inj H
   go_wp2_with (first | ((with_reducible refine gate_callee (f := 35) rfl ?_); refine goesL_ (some 38) rfl rfl Try.func35 (by kernel_rfl) rfl #[.slice A0 l0.length c0] rfl (by (try simp only [List.map_toArray, List.map_cons, List.map_nil]); first | done | rfl | (simp only [List.length_drop, List.length_take]; rfl)) ?_; (with_reducible refine (laws_toInt64S.calls kj7 _ _ l0 t51011 _ ?side1 ?side2 A17.out).mono ?_); (case side1 => repeat (first | exact (Kd.C_below HR0.out HB.out) | (with_reducible refine Kd.C_alloc ?_ _) | (with_reducible refine Kd.C_drewN ?_ _) | (with_reducible refine Kd.C_drew ?_))); (case side2 => exact HC0.out); rintro e w22 ⟨v51012, rfl, ho0, hb⟩; refine ⟨_, rfl, ?_⟩; have n0_ := Aside0.mk (Kd.R_elder' (by (with_reducible repeat (first | apply Kd.R_alloc | apply Kd.R_drewN | apply Kd.R_drew)); exact HO_7.out) (Kd.R_base ho0) hb); have n1_ := Aside0.mk (Kd.R_lower (Kd.R_new' ho0 (Kd.R_lt (by (with_reducible repeat (first | apply Kd.R_alloc | apply Kd.R_drewN | apply Kd.R_drew)); exact HO_7.out))) (below_size (by repeat (first | (with_reducible first | exact HB.out | apply below_alloc | apply pw_below_drewN | apply below_drew1) | exact HB.out)))); have n2_ := Aside0.mk (below_step (by repeat (first | (with_reducible first | exact HB.out | apply below_alloc | apply pw_below_drewN | apply below_drew1) | exact HB.out)) hb); clear HO_7; clear HB; have HO_7 := n0_; have HO51013 := n1_; have HB := n2_; clear n0_ n1_ n2_; (try clear hb); (try clear hb2); (try clear hk); (try clear hi); (try clear ho0); obtain ⟨Ao23, co23, eo23⟩ := Kd.R_slice HO51013.out; subst eo23) | ((with_reducible refine gate_callee (f := 37) rfl ?_); refine goesL_ (some 39) rfl rfl Try.func37 (by kernel_rfl) rfl #[.slice Ao13 t51006.length co13, .slice Ao23 t51011.length co23] rfl (by (try simp only [List.map_toArray, List.map_cons, List.map_nil]); first | done | rfl | (simp only [List.length_drop, List.length_take]; rfl)) ?_; (with_reducible refine (laws_eqInt64S.calls kj7 _ _ t51006 _ _ t51011 false _ ?side1 ?side2 ?side3 ?side4 A18.out).mono ?_); (case side1 => repeat (first | exact (Kd.R_reads' HO_7.out).2.2 | (with_reducible refine Kd.C_alloc ?_ _) | (with_reducible refine Kd.C_drewN ?_ _) | (with_reducible refine Kd.C_drew ?_))); (case side2 => exact (Kd.R_reads' HO_7.out).2.1); (case side3 => repeat (first | exact (Kd.R_reads' HO51013.out).2.2 | (with_reducible refine Kd.C_alloc ?_ _) | (with_reducible refine Kd.C_drewN ?_ _) | (with_reducible refine Kd.C_drew ?_))); (case side4 => exact (Kd.R_reads' HO51013.out).2.1); rintro e w' ⟨rfl, ⟨nd, rfl⟩⟩; refine ⟨_, rfl, ?_⟩))
   go_ret
   exact ⟨by first | rfl | (simp [errW_none, errW_some] <;> rfl) | (simp [*, errW_none, errW_some] <;> rfl), by repeat (first | (with_reducible first | exact HB.out | apply below_alloc | apply pw_below_drewN | apply below_drew1) | exact HB.out)⟩
def laws_FnExactValueOfInterlace.Pure : Prop := ∀ (l0 : List Int) (a1 : Int), l0.length ≤ maxLen → l0.length * 8 ≤ 140737488351232 → (∀ x ∈ l0, (Lit.int .i64 x).wf = true) → (Lit.int .i64 a1).wf = true → ∃ k, laws_FnExactValueOfInterlace.f k l0 a1 = some true
theorem laws_FnExactValueOfInterlace.walk (P : laws_FnExactValueOfInterlace.Pure) (a0 : Option Addr) (len0 cap0 : Nat) (z0 : List Int) (a1 : Int) (w : World) (w0 : (a0 = none ∧ len0 = 0 ∧ cap0 = 0 ∧ z0 = []) ∨ ∃ x, a0 = some x ∧ len0 ≤ cap0 ∧ cap0 ≤ maxLen ∧ z0.length = cap0 ∧ (∀ i, i < z0.length → w.cell? (x.add i) = some (.int .i64 (z0.getD i 0))) ∧ ∀ n ∈ z0, (Lit.int .i64 n).wf = true) (y0 : len0 * 8 ≤ 140737488351232) (w1 : (Lit.int .i64 a1).wf = true) :
  Calls Try.prog 5 #[.slice a0 len0 cap0, .int .i64 a1] w fun e w' => e = .returned (.bool true) ∧ Below w.heap.size w w' := by
 obtain ⟨l0, rfl, hr0, hm0, hw0, hc0⟩ := ReadsInt.ofRowC w0
 obtain ⟨k, h⟩ := P l0 a1 hm0 y0 hw0 w1
 refine (laws_FnExactValueOfInterlace.calls k _ _ l0 a1 true w (Kd.C_of_reads (d := (0 : Int)) (h1 := fun _ => rfl) hr0) hc0 h).mono ?_
 rintro e w' ⟨rfl, hd⟩
 exact ⟨rfl, hd⟩
end Go.Proofs.Ytcnekpdoldljgaa.F
end
section
namespace Go.Proofs.Ytcnekpdoldljgaa.F
open Go.RowKit Go.Proofs.YtcnekpdoldljgaaW.PrintWords Go.Proofs.YtcnekpdoldljgaaW.PrintLast Go.Proofs.YtcnekpdoldljgaaW.PrintMore
attribute [local go_sem] max2_int min2_int max_two min_two max_three min_three max_four min_four   
set_option linter.unusedVariables false
set_option linter.unusedSimpArgs false
end Go.Proofs.Ytcnekpdoldljgaa.F
end
section
namespace Go.Proofs.Ytcnekpdoldljgaa.F
open Go.RowKit Go.Proofs.YtcnekpdoldljgaaW.PrintWords Go.Proofs.YtcnekpdoldljgaaW.PrintLast Go.Proofs.YtcnekpdoldljgaaW.PrintMore
attribute [local go_sem] max2_int min2_int max_two min_two max_three min_three max_four min_four   
set_option linter.unusedVariables false
set_option linter.unusedSimpArgs false
end Go.Proofs.Ytcnekpdoldljgaa.F
end
section
namespace Go.Proofs.Ytcnekpdoldljgaa.Chrom
def sumR (f : Nat → Int) : Nat → Int
  | 0 => 0
  | n + 1 => sumR f n + f n
def at_ (c : List Nat) (v : Nat) : Nat := c.getD v 0
def okc (X : Nat → Nat → Bool) (c : List Nat) (x : Nat) : Bool := (List.range c.length).all fun v => !(X c.length v) || !(at_ c v == x)
def ext (X : Nat → Nat → Bool) (k : Nat) : Nat → List Nat → Int
  | 0, _ => 1
  | d + 1, c => sumR (fun x => if okc X c x = true then ext X k d (c ++ [x]) else 0) k
def Good (X : Nat → Nat → Bool) (m : Nat) (c : List Nat) : Prop := ∀ i, i < m → ∀ v, v < i → X i v = true → at_ c i ≠ at_ c v
def fall (k : Int) : Nat → Int
  | 0 => 1
  | j + 1 => fall k j * (k - j)
def ev (k : Int) (out : List Int) : Int := sumR (fun j => out.getD j 0 * fall k j) out.length
end Go.Proofs.Ytcnekpdoldljgaa.Chrom
end
section
namespace Go.Proofs.Ytcnekpdoldljgaa.Pure
open Go.RowKit Go.Proofs.Ytcnekpdoldljgaa.F Go.Proofs.Ytcnekpdoldljgaa.Mem Go.Proofs.Ytcnekpdoldljgaa.Chrom Go.Proofs.YtcnekpdoldljgaaW.PrintWords Go.Proofs.YtcnekpdoldljgaaW.PrintLast
theorem value_ev (l : List Int) (x : Int) (hl : l.length ≤ 1048576) : Ev (fun k => spec_l10Value.f k l x) (valS x (backTo l l.length)) := by
  have key : ∀ k' d, d + k' = l.length → Ev (fun k => spec_l10Value.l0 k l x (valS x (backTo l d)) ((k' : Int) - 1)) (valS x (backTo l l.length)) := by
    intro k'
    induction k' with
    | zero =>
      intro d hd
      obtain rfl : d = l.length := by omega
      refine Ev_succ ?_
      simp only [spec_l10Value.l0]
      exact Ev.congr (fun k => if_neg (by omega)) (Ev.now _)
    | succ k' ih =>
      intro d hd
      have e : (((k' + 1 : Nat) : Int) - 1) = (k' : Int) := by omega
      rw [e]
      refine Ev_succ ?_
      simp only [spec_l10Value.l0]
      refine Ev.congr (fun k => if_pos (by omega)) (Ev.congr (fun k => if_pos (by omega)) (Ev.congr (fun k => if_pos (by omega)) ?_))
      have h := ih (d + 1) (by omega)
      rw [backTo, valS_snoc, show l.length - 1 - d = k' from by omega] at h
      rw [rdN, show wrap64 ((k' : Int) - 1) = (k' : Int) - 1 from by unfold wrap64; omega]
      exact h
  unfold spec_l10Value.f
  rw [show wrap64 ((l.length : Int) - 1) = (l.length : Int) - 1 from by unfold wrap64; omega]
  exact key l.length 0 (by omega)
end Go.Proofs.Ytcnekpdoldljgaa.Pure
end
section
namespace Go.Proofs.Ytcnekpdoldljgaa.Pure
open Go.RowKit Go.Proofs.Ytcnekpdoldljgaa.F Go.Proofs.Ytcnekpdoldljgaa.Mem Go.Proofs.YtcnekpdoldljgaaW.PrintWords Go.Proofs.YtcnekpdoldljgaaW.PrintLast
set_option linter.unusedVariables false
set_option linter.unusedSimpArgs false
theorem interlaceV_le (w : List Int) (h : isW w = true) : (interlaceV w).length ≤ 1048576 := by
  have := ((isW_iff w).1 h).le
  unfold interlaceV; rw [polyTo_len]; omega
theorem specInterlace_f (w : List Int) (h : isW w = true) : spec_l10Interlace.f w = some (interlaceV w) := by unfold spec_l10Interlace.f; rw [if_pos h]
def valV (l : List Int) (a : Int) : Int × Int := if isW l = true then (if decide (-100 ≤ a ∧ a ≤ 100) = true then (valS a (backTo (interlaceV l) (interlaceV l).length), 0) else (0, 2)) else (0, 1)
theorem specValI_ev (l : List Int) (a : Int) : Ev (fun k => spec_ValueOfInterlace.f k l a) (valV l a) := by
  unfold spec_ValueOfInterlace.f valV
  refine Ev.bind (is_ev l) ?_
  by_cases h : isW l = true
  · rw [if_pos h]
    refine Ev.congr (fun k => if_pos h) ?_
    simp only [spec_in_f, Option.bind_some]
    by_cases g : decide (-100 ≤ a ∧ a ≤ 100) = true
    · rw [if_pos g]
      refine Ev.congr (fun k => if_pos g) ?_
      rw [specInterlace_f l h]
      exact Ev.bind (Ev.now _) (Ev.bind (value_ev (interlaceV l) a (interlaceV_le l h)) (Ev.now _))
    · rw [if_neg g]
      exact Ev.congr (fun k => if_neg g) (Ev.now _)
  · rw [if_neg h]
    exact Ev.congr (fun k => if_neg h) (Ev.now _)
theorem implValI_ev (l : List Int) (a : Int) (hw : ∀ x ∈ l, (Lit.int .i64 x).wf = true) : Ev (fun k => impl_ValueOfInterlace.f k l a) (valV l a) := by
  unfold impl_ValueOfInterlace.f valV
  refine Ev.bind (isWord_ev l hw) ?_
  by_cases h : isW l = true
  · refine Ev.congr (fun k => if_pos h) ?_
    rw [if_pos h]
    simp only [in_f, Option.bind_some]
    by_cases g : decide (-100 ≤ a ∧ a ≤ 100) = true
    · refine Ev.congr (fun k => if_pos g) ?_
      rw [if_pos g]
      rw [show impl_interlace.f l = some (interlaceV l) from by unfold impl_interlace.f; rw [if_pos h]]
      have := interlaceV_le l h
      rw [Option.bind_some, show impl_valueAt.f (interlaceV l) a = some (valS a (backTo (interlaceV l) (interlaceV l).length)) from by unfold impl_valueAt.f; rw [if_pos (by omega)]]
      exact Ev.now _
    · refine Ev.congr (fun k => if_neg g) ?_
      rw [if_neg g]
      exact Ev.now _
  · refine Ev.congr (fun k => if_neg h) ?_
    rw [if_neg h]
    exact Ev.now _
end Go.Proofs.Ytcnekpdoldljgaa.Pure
end
section
namespace Go.Proofs.Ytcnekpdoldljgaa.Pure
open Go.RowKit Go.Proofs.Ytcnekpdoldljgaa.F Go.Proofs.YtcnekpdoldljgaaW.PrintWords Go.Proofs.YtcnekpdoldljgaaW.PrintLast
theorem FnExactValueOfInterlace : laws_FnExactValueOfInterlace.Pure := by
  intro l a1 hm hl hw ha1
  refine Ev.rounds ?_
  unfold laws_FnExactValueOfInterlace.f
  by_cases hb : (l.length : Int) > 1048576
  · exact Ev.congr (fun _ => if_pos hb) (Ev.now _)
  refine Ev.congr (fun _ => if_neg hb) ?_
  have hS := specValI_ev l a1
  have hI := implValI_ev l a1 hw
  generalize valV l a1 = v at *
  obtain ⟨v, c⟩ := v
  refine Ev.bind (toS_ev l (by omega)) ?_
  refine Ev.bind hS ?_
  refine Ev.bind (toS_ev l (by omega)) ?_
  refine Ev.bind hI ?_
  refine Ev.congr (fun k => if_pos rfl) ?_
  refine Ev_succ ?_
  simp only [laws_FnExactValueOfInterlace.j0, bne_self_eq_false, Bool.false_eq_true, if_false]
  refine Ev.bind (toS_ev l (by omega)) ?_
  refine Ev.bind (eqS_ev l l (by omega)) ?_
  exact Ev.congr (fun k => if_pos (decide_eq_true rfl)) (Ev.now _)
end Go.Proofs.Ytcnekpdoldljgaa.Pure
end
