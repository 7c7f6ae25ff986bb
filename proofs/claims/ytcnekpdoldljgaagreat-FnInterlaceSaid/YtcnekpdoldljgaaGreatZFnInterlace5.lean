/- Words, walks and plain laws that the row of the law FnInterlace uses. -/
import Derived.Test.YtcnekpdoldljgaaGreatZFnInterlace4
import Derived.BigQuiet
import Derived.BigRegion
import Derived.RangeFuncBox
import Derived.RangeFuncLeaves
import Derived.RangeFuncNested
import Derived.RangeFuncBound
import Derived.RangeFuncCalls
import Derived.Shelf.Abstract
import Derived.Shelf.RegionOpen
import Derived.WalkKit
import Derived.OwnWalkIn
import Derived.TacticsInMore
import Derived.LoopNIn
import Derived.LoopIn
import Derived.Deep.RegionWith
import Derived.Deep.RegionLawGrows
import Derived.Laws.EntriesVeiled
section
namespace Go.Proofs.YtcnekpdoldljgaaGreat.Pure
open Go.RowKit Go.Proofs.YtcnekpdoldljgaaGreat.F Go.Proofs.YtcnekpdoldljgaaGreat.Mem Go.Proofs.YtcnekpdoldljgaaGreat.Red Go.Proofs.YtcnekpdoldljgaaGreatW.PrintWords Go.Proofs.YtcnekpdoldljgaaGreatW.PrintLast
def nxtTo (p : List Int) : Nat → List Int
  | 0 => List.replicate (p.length + 1) 0
  | j + 1 => ((nxtTo p j).set j (wrap64 ((nxtTo p j).getD j 0 - p.getD j 0))).set (j + 1) (wrap64 (((nxtTo p j).set j (wrap64 ((nxtTo p j).getD j 0 - p.getD j 0))).getD (j + 1) 0 + p.getD j 0))
theorem nxtTo_len (p : List Int) : ∀ j, (nxtTo p j).length = p.length + 1
  | 0 => List.length_replicate
  | j + 1 => by rw [nxtTo, List.length_set, List.length_set, nxtTo_len p j]
theorem nxt_powC : ∀ m, m < 6 → nxtTo (powC m) (m + 1) = powC (m + 1)
  | 0, _ => by kernel_rfl
  | 1, _ => by kernel_rfl
  | 2, _ => by kernel_rfl
  | 3, _ => by kernel_rfl
  | 4, _ => by kernel_rfl
  | 5, _ => by kernel_rfl
theorem some_ev (w : List Int) (keep : List Bool) (hl : w.length ≤ 12) (hv : ∀ x ∈ w, 0 ≤ x ∧ x < (keep.length : Int)) : Ev (fun k => spec_l01Some.f k w keep) (nrm (w.filter fun x => rdOf false keep x)) := by
  have key : ∀ d i, i + d = w.length → Ev (fun k => spec_l01Some.l0 k w keep ((w.take i).filter fun x => rdOf false keep x) (i : Int)) (nrm (w.filter fun x => rdOf false keep x)) := by
    intro d
    induction d with
    | zero =>
      intro i hi
      refine Ev_succ ?_
      simp only [spec_l01Some.l0]
      refine Ev.congr (fun k => if_neg (by omega)) ?_
      rw [List.take_of_length_le (by omega)]
      exact Ev.bind (normal_ev _ (by have := List.length_filter_le (fun x => rdOf false keep x) w; omega)) (Ev.now _)
    | succ d ih =>
      intro i hi
      have hlt : i < w.length := by omega
      have h := ih (i + 1) (by omega)
      have hg : w.getD i 0 = w[i] := by rw [List.getD_eq_getElem?_getD, List.getElem?_eq_getElem hlt]; rfl
      have hx := hv _ (List.getElem_mem hlt)
      rw [List.take_succ_eq_append_getElem hlt, List.filter_append] at h
      rw [← hg] at hx h
      refine Ev_succ ?_
      simp only [spec_l01Some.l0]
      rw [rdN]
      refine Ev.congr (fun k => if_pos (by omega)) (Ev.congr (fun k => if_pos (by omega)) (Ev.congr (fun k => if_pos hx.1) (Ev.congr (fun k => if_pos hx.2) ?_)))
      have hfl := List.length_filter_le (fun x => rdOf false keep x) (w.take i)
      rw [List.length_take] at hfl
      rw [wS (by omega)]
      by_cases hk : rdOf false keep (w.getD i 0) = true
      · rw [List.filter_cons_of_pos (by simpa using hk), List.filter_nil] at h
        exact Ev.congr (fun k => if_pos hk) (Ev.congr (fun k => if_pos (by omega)) h)
      · rw [List.filter_cons_of_neg (by simpa using hk), List.filter_nil, List.append_nil] at h
        exact Ev.congr (fun k => if_neg hk) h
  unfold spec_l01Some.f
  exact key w.length 0 (by omega)
def keepTo (s n i : Nat) : List Bool := (List.range n).map fun j => decide (j < i) && s.testBit j
theorem keepTo_len (s n i : Nat) : (keepTo s n i).length = n := by simp [keepTo]
theorem keepTo_succ (s n i : Nat) : (keepTo s n i).set i (s.testBit i) = keepTo s n (i + 1) := by
  refine List.ext_getElem (by simp [keepTo]) (fun j h1 h2 => ?_)
  rw [List.getElem_set]
  simp only [keepTo, List.getElem_map, List.getElem_range]
  by_cases h : i = j
  · subst h; simp
  · rw [if_neg h]
    congr 1
    exact decide_eq_decide.2 (by omega)
theorem keepTo_at (s n i j : Nat) (hj : j < n) : (keepTo s n i).getD j false = (decide (j < i) && s.testBit j) := by
  rw [List.getD_eq_getElem?_getD, List.getElem?_eq_getElem (by rw [keepTo_len]; exact hj)]
  simp [keepTo]
theorem set_ev (w : List Int) (hw : Word w) (n : Nat) (hn : n = w.length / 2) (s : Nat) (hs : s < 64) : Ev (fun k => spec_l10Set.f k w (s : Int)) (innerOf w s n, ((setTo s n).length : Int)) := by
  have hle := hw.le
  have key : ∀ d i, i + d = n → Ev (fun k => spec_l10Set.l0 k w (s : Int) (keepTo s n i) ((setTo s i).length : Int) (i : Int)) (innerOf w s n, ((setTo s n).length : Int)) := by
    intro d
    induction d with
    | zero =>
      intro i hi
      obtain rfl : i = n := by omega
      refine Ev_succ ?_
      simp only [spec_l10Set.l0]
      refine Ev.congr (fun k => if_neg (by rw [keepTo_len]; omega)) ?_
      have h := some_ev w (keepTo s i i) hle (fun x hx => by
        obtain ⟨j, hj, rfl⟩ := (hw.mem x).1 hx
        rw [keepTo_len]; omega)
      have e : (w.filter fun x => rdOf false (keepTo s i i) x) = w.filter (inSet s i) := List.filter_congr (fun x hx => by
        obtain ⟨j, hj, rfl⟩ := (hw.mem x).1 hx
        unfold rdOf
        rw [Int.toNat_natCast, keepTo_at s i i j (by omega), decide_eq_true (show j < i by omega), Bool.true_and, Bool.eq_iff_iff, inSet_mem]
        unfold ints setTo
        simp only [List.mem_map, List.mem_filter, List.mem_range]
        exact ⟨fun h => ⟨j, ⟨by omega, h⟩, rfl⟩, fun ⟨m, hm, e⟩ => by rw [show j = m from by omega]; exact hm.2⟩)
      rw [e] at h
      exact Ev.bind h (Ev.now _)
    | succ d ih =>
      intro i hi
      have h := ih (i + 1) (by omega)
      have hsl := setTo_le s i
      rw [← keepTo_succ, setTo_succ] at h
      refine Ev_succ ?_
      simp only [spec_l10Set.l0]
      rw [u64_nat i (by omega), bit_at s i (by omega) (by omega), wS (by omega), wS (by omega), Int.toNat_natCast]
      have eb : ((if s.testBit i = true then (1 : Int) else 0) == 1) = s.testBit i := by cases s.testBit i <;> rfl
      rw [eb]
      refine Ev.congr (fun k => if_pos (by rw [keepTo_len]; omega)) (Ev.congr (fun k => if_pos (by omega)) (Ev.congr (fun k => if_pos (by omega)) ?_))
      have er : rdOf false ((keepTo s n i).set i (s.testBit i)) (i : Int) = s.testBit i := by
        unfold rdOf
        rw [Int.toNat_natCast, keepTo_succ, keepTo_at s n (i + 1) i (by omega), decide_eq_true (show i < i + 1 by omega), Bool.true_and]
      simp only [Option.bind_some]
      rw [er]
      by_cases hb : s.testBit i = true
      · rw [if_pos hb, List.length_append, List.length_singleton] at h
        exact Ev.congr (fun k => if_pos hb) h
      · rw [if_neg hb] at h
        exact Ev.congr (fun k => if_neg hb) h
  have e1 : wrap64 ((w.length : Int) / 2) = (n : Int) := by unfold wrap64; omega
  have h0 := key n 0 (by omega)
  have e2 : keepTo s n 0 = List.replicate n false := by
    refine List.ext_getElem (by simp [keepTo]) (fun j h1 h2 => ?_)
    simp [keepTo]
  rw [e2] at h0
  unfold spec_l10Set.f
  rw [e1, Int.toNat_natCast]
  exact Ev.congr (fun k => if_pos (by omega)) (Ev.congr (fun k => if_pos (by omega)) h0)
end Go.Proofs.YtcnekpdoldljgaaGreat.Pure
end
section
namespace Go.Proofs.YtcnekpdoldljgaaGreat.F
open Go.RowKit Go.Proofs.YtcnekpdoldljgaaGreatW.PrintWords Go.Proofs.YtcnekpdoldljgaaGreatW.PrintLast Go.Proofs.YtcnekpdoldljgaaGreatW.PrintMore
attribute [local go_sem] max2_int min2_int max_two min_two max_three min_three max_four min_four   
set_option linter.unusedVariables false
set_option linter.unusedSimpArgs false
open Go.Proofs.YtcnekpdoldljgaaGreat.Pure Go.Proofs.YtcnekpdoldljgaaGreat.Mem Go.Proofs.YtcnekpdoldljgaaGreat.Red Go.Proofs.YtcnekpdoldljgaaGreat.ORows
def spec_l10Interlace.f (l0 : List Int) : Option (List Int) := if isW l0 = true then some (interlaceV l0) else none
set_option maxHeartbeats 16000000 in
set_option maxRecDepth 100000 in
theorem spec_l10Interlace.calls (A0 : Option Addr) (c0 : Nat) (l0 : List Int) (r : List Int) (w : World) (hr0 : Kd.C (Kd.int .i64) w A0 l0.length l0) (hc0 : l0.length ≤ c0) (h : spec_l10Interlace.f l0 = some r) :
  Calls Tryz.prog 59 #[.slice A0 l0.length c0] w fun e w' => ∃ v0_ : Value, e = .returned v0_ ∧ Kd.R (Kd.int .i64) 2 w' w.heap.size (fun _ => True) v0_ r ∧ Below w.heap.size w w' := by
 have hf : isW l0 = true ∧ r = interlaceV l0 := by
  unfold spec_l10Interlace.f at h
  by_cases hk : isW l0 = true
  rotate_left
  ·rw [if_neg hk] at h; exact absurd h (by simp)
  rw [if_pos hk] at h; exact ⟨hk, (Option.some.inj h).symm⟩
 have hw := (isW_iff l0).1 hf.1
 have hle := hw.le
 have HW := Aside0.mk hw
 have HRR := Aside0.mk hf.2
 obtain ⟨n, hn⟩ : ∃ n, n = l0.length / 2 := ⟨_, rfl⟩
 have hn6 : n ≤ 6 := by omega
 obtain ⟨N, hN⟩ : ∃ N, N = 2 ^ n := ⟨_, rfl⟩
 have hN2 : N ≤ 64 := by rw [hN]; exact Nat.le_trans (Nat.pow_le_pow_right (by decide) hn6) (by decide)
 have hsh := sh_two hn6 hN
 have hlen : wrap64 ((l0.length : Int) / 2) = (n : Int) := by unfold wrap64; omega
 have hmk := make_ints (P := Tryz.prog) Tryz.underlying37 info2 ((n : Int) + 1) (n + 1) (by omega) (by omega)
 have HNN := Aside0.mk hN
 have HN := Aside0.mk hn
 have HR := Aside0.mk hr0
 have HC := Aside0.mk hc0
 have HLE := Aside0.mk hle
 clear hr0 hc0 h hf hw hle hn hN
 go_enter Tryz.func59, Tryz.ntmps59
 go_wp2
 obtain ⟨Bo, hBo⟩ : ∃ Bo, Bo = w.heap.size := ⟨_, rfl⟩
 have HBO := Aside0.mk hBo
 rw [← hBo]
 simp only [hlen]
 go_loopw [5] (fun s5 wr => ∃ s : Nat, s5 = .int .i64 (s : Int) ∧ Aside0 (s ≤ N) ∧ Aside0 (Below w.heap.size w wr) ∧ Aside0 (wr.heap[Bo]? = some (.cells (nums .i64 (polyTo l0 n s)).toArray 2 (0, 0))))
  (fun s5 _ => N - (intOf s5).toNat)
 case atStart => exact ⟨0, rfl, ⟨Nat.zero_le _⟩, ⟨below_alloc (Below.refl _ _) _⟩, ⟨new_at hBo⟩⟩
 case round =>
  obtain ⟨s, rfl, HS, HB, HH⟩ := hrel
  clear hBo
  by_cases hlt : s < N
  rotate_left
  ·have t1 : decide ((s : Int) < (N : Int)) = false := decide_eq_false (by omega)
   have t2 : decide (s < N) = false := decide_eq_false hlt
   have HSE := Aside0.mk (show s = N from by have := HS.out; omega)
   clear hlt
   go_wp2_with fail
   go_ret
   refine ⟨_, rfl, ?_, (by first | exact HB.out | (rw [HBO.out]; exact HB.out))⟩
   have h := HH.out
   rw [HSE.out, HNN.out, HN.out] at h
   rw [HRR.out, HN.out]
   have hle := HLE.out
   exact R_of_block (xs := interlaceV l0) h (by unfold interlaceV; rw [polyTo_len]) (by unfold maxLen; omega) (by rw [HBO.out]; exact Nat.le_refl _)
  have t1 : decide ((s : Int) < (N : Int)) = true := decide_eq_true (by omega)
  have t2 : decide (s < N) = true := decide_eq_true hlt
  have HLT := Aside0.mk hlt
  have hs64 : s < 64 := by omega
  obtain ⟨ks, hks⟩ := Ev.rounds (set_ev l0 HW.out n HN.out s hs64)
  obtain ⟨hiw, hil⟩ := inner_ok HW.out HN.out s
  obtain ⟨kr, hkr⟩ := Ev.rounds (srows_ev _ hiw)
  obtain ⟨hco, hcn, _⟩ := co_ok HW.out HN.out s
  have hrank := (rkC_rank (rows_bits (innerOf l0 s n)) (by have := hiw.le; omega)).1
  obtain ⟨inner, hinner⟩ : ∃ inner, innerOf l0 s n = inner := ⟨_, rfl⟩
  obtain ⟨q, hq⟩ : ∃ q, (setTo s n).length = q := ⟨_, rfl⟩
  obtain ⟨m, hm⟩ : ∃ m, coOf l0 s n = m := ⟨_, rfl⟩
  obtain ⟨rk, hrk⟩ : ∃ rk, rkC (rowsOf inner) = rk := ⟨_, rfl⟩
  rw [ints_len, hq, hinner, hrk, hm] at hco
  rw [hm] at hcn
  rw [hinner, hrk] at hrank
  rw [hinner, hq] at hks
  rw [hinner] at hkr hiw
  have hsub : wrap64 ((q : Int) - (rk : Int)) = (m : Int) := by unfold wrap64; omega
  have HSUB := Aside0.mk hsub
  have HKS := Aside0.mk hks
  have HKR := Aside0.mk hkr
  have HIW := Aside0.mk hiw
  have HM := Aside0.mk hm
  have HCN := Aside0.mk hcn
  have HRANK := Aside0.mk hrank
  have hrw : ∀ (W0 W : World) (v : Value), Kd.S (Kd.slice 2 (Kd.int .i64)) 37 W W0.heap.size (fun _ => True) v (rowsOf inner) → Below W0.heap.size W0 W → ∃ A c, v = .slice A (inner.length / 2) c ∧ Calls Tryz.prog 124 #[.slice A (inner.length / 2) c] W fun e w' => e = .returned (.int .i64 (rk : Int)) ∧ Below W0.heap.size W0 w' := fun W0 W v hS hB =>
   l02Rank_walk (W0 := W0) hS hB (rows_bits inner) (rows_length inner) (by have := HIW.out.le; omega) HRANK.out
  have HRW := Aside0.mk hrw
  clear hks hkr hiw hm hcn hrank hrw hinner hq hrk hil hco hsub
  go_wp2_with (first
   | (go_at_call 123; refine (spec_l10Set.calls ks A0 c0 l0 (s : Int) inner (q : Int) _ (Kd.C_below HR.out HB.out) HC.out HKS.out).mono ?_; rintro e w1 ⟨v1, rfl, ho1, hb1⟩; obtain ⟨A1, c1, rfl⟩ := Kd.R_slice ho1; have HR1 := Aside0.mk ho1; have HB1 := Aside0.mk hb1; clear ho1 hb1)
   | ((with_reducible refine gate_dst (N := 32) rfl ?_); refine Kd.R_lit (Kd.int .i64) (w0 := w1) w1.heap.size 2 ?hg (N := 32) ?hd (xs := ([1] : List Int)) (inner := [.int .i64 1]) (ok := fun _ => True) (okp := fun _ => False) ?hr ?hp (fun _ hk => hk.elim) trivial (Below.refl _ _) (Nat.le_refl _) (by simp) ?_; (case hd => rfl); (case hg => rfl); (case hr => first | (go_simp; done) | (go_simp; rfl)); (case hp => exact ((Reps.none _ _).snoc (p := (1 : Int)) rfl rfl)); intro v3 w3 ho hb hg_ hnew_; have HR3 := Aside0.mk ho; have HB3 := Aside0.mk hb; have HG3 := Aside0.mk hg_; clear ho hb hg_ hnew_)
   | (go_at_call 73; refine (spec_l01Cross.calls kr A1 c1 inner (rowsOf inner) _ (Kd.C_below (Kd.R_reads' HR1.out).2.2 HB3.out) (Kd.R_reads' HR1.out).2.1 HKR.out).mono ?_; rintro e w4 ⟨v4, rfl, hS4, hB4⟩; obtain ⟨A4, c4, rfl, hr4⟩ := HRW.out w3 w4 v4 hS4 hB4; have HR4 := Aside0.mk hr4; clear hS4 hB4 hr4)
   | (go_at_call 124; refine HR4.out.mono ?_; rintro e w5 ⟨rfl, hB5⟩; have HB5 := Aside0.mk hB5; clear hB5))
  have hBO : Bo < wr.heap.size := blk_lt HH.out
  have HH5 := Aside0.mk (show w5.heap[Bo]? = some (.cells (nums .i64 (polyTo l0 n s)).toArray 2 (0, 0)) from
   (HB5.out.block Bo (Nat.lt_of_lt_of_le hBO (Nat.le_trans HB1.out.size HB3.out.size))).trans ((HB3.out.block Bo (Nat.lt_of_lt_of_le hBO HB1.out.size)).trans ((HB1.out.block Bo hBO).trans HH.out)))
  have HB05 := Aside0.mk (below_step (below_step (below_step HB.out HB1.out) HB3.out) HB5.out)
  have HR5 := Aside0.mk (show Kd.R (Kd.int .i64) 2 w5 w.heap.size (fun k => k ≠ Bo) v3 (powC 0) from Kd.R_lower (Kd.R_below (Kd.R_mono (ok' := fun k => k ≠ Bo) (Kd.R_bound HR3.out) (fun k hk => by have := hk.2.1; have := HB1.out.size; omega)) HB5.out) (Nat.le_trans HB.out.size HB1.out.size))
  have hHS : wrap64 ((q : Int) - (rk : Int)) = (m : Int) := HSUB.out
  simp only [hHS]
  clear hHS hBO HR1 HB1 HR3 HB3 HG3 HR4 HB5 HRW HRANK HKS HKR HIW HH HB
  have hm6 : m ≤ 6 := by have := HCN.out; omega
  go_loopw [9, 8] (fun s9 s8 wr => ∃ j d : Nat, s9 = .int .i64 (d : Int) ∧ Aside0 (j + d = m) ∧ Aside0 (Below w.heap.size w wr) ∧ Aside0 (wr.heap[Bo]? = some (.cells (nums .i64 (polyTo l0 n s)).toArray 2 (0, 0))) ∧ Aside0 (Kd.R (Kd.int .i64) 2 wr w.heap.size (fun k => k ≠ Bo) s8 (powC j)))
   (fun s9 _ _ => (intOf s9).toNat)
  case atStart => exact ⟨0, m, rfl, ⟨Nat.zero_add m⟩, HB05, HH5, HR5⟩
  case round =>
   clear HB05 HH5 HR5
   obtain ⟨j, d, rfl, HJ, HB, HH, HRJ⟩ := hrel
   obtain ⟨A6, c6, rfl⟩ := Kd.R_slice HRJ.out
   have hlenP : (powC j).length = j + 1 := powC_len j
   have hjm : j ≤ m := by have := HJ.out; omega
   have HJM := Aside0.mk hjm
   obtain ⟨Bn, hBn⟩ : ∃ Bn, Bn = wr.heap.size := ⟨_, rfl⟩
   have HBN := Aside0.mk hBn
   have hBO : Bo < wr.heap.size := blk_lt HH.out
   have HBON := Aside0.mk (show Bo < Bn by omega)
   have HF : Aside0 (Kd.F (Kd.int .i64) wr (fun k => k ≠ Bn) A6 (j + 1) (powC j)) := ⟨by
    have h := Kd.R_F (Kd.R_mono (ok' := fun k => k ≠ Bn) (Kd.R_bound HRJ.out) (fun k hk => by have := hk.2.2; omega))
    rw [hlenP] at h; exact h⟩
   have HF2 : Aside0 (Kd.F (Kd.int .i64) wr (fun k => k ≠ Bo) A6 (j + 1) (powC j)) := ⟨by
    have h := Kd.R_F HRJ.out
    rw [hlenP] at h; exact h⟩
   simp only [hlenP]
   obtain ⟨wo, hwo⟩ : ∃ wo, wo = wr := ⟨wr, rfl⟩
   subst hwo
   rcases Nat.eq_zero_or_pos d with hd | hd
   ·subst hd
    have r1 : decide (((0 : Nat) : Int) > 0) = false := by decide
    have r2 : decide (0 < 0) = false := by decide
    have HJE := Aside0.mk (show j = m from by have := HJ.out; omega)
    clear hjm hBO hBn
    go_wp2_with fail
    have hn1 : (polyTo l0 n s).length = n + 1 := polyTo_len _ _ _
    have HOL := Aside0.mk hn1
    have HOB := Aside0.mk (show ∀ i, -1000000 ≤ (polyTo l0 n s).getD i 0 + (powC m).getD i 0 ∧ (polyTo l0 n s).getD i 0 + (powC m).getD i 0 ≤ 1000000 from fun i => by
     have h1 := polyTo_small l0 n (fun s => by have := (co_ok HW.out HN.out s).2.1; omega) s i
     have h2 := powC_small m hm6 i
     omega)
    obtain ⟨old, hold⟩ : ∃ old, polyTo l0 n s = old := ⟨_, rfl⟩
    have HOLD := Aside0.mk hold
    rw [hold] at HH HOL HOB
    have HF3 : Aside0 (Kd.F (Kd.int .i64) wo (fun k => k ≠ Bo) A6 (m + 1) (powC m)) := ⟨by have h := HF2.out; rw [HJE.out] at h; exact h⟩
    simp only [HJE.out]
    clear hn1 hold HRJ HF HF2 hlenP HJM HJ
    go_loopw [12] (fun s12 wq => ∃ x : Nat, s12 = .int .i64 (x : Int) ∧ Aside0 (x ≤ m + 1) ∧ Aside0 (wo.grownBy wq (some Bo)) ∧ Aside0 (wq.heap[Bo]? = some (.cells (nums .i64 (addTo old (powC m) x)).toArray 2 (0, 0))) ∧ Aside0 (Kd.F (Kd.int .i64) wq (fun k => k ≠ Bo) A6 (m + 1) (powC m)))
     (fun s12 _ => m + 1 - (intOf s12).toNat)
    case atStart => exact ⟨0, rfl, ⟨Nat.zero_le _⟩, ⟨grown_refl _ _⟩, ⟨by rw [addTo_zero]; exact HH.out⟩, HF3⟩
    case round =>
     clear HF3 HH
     obtain ⟨x, rfl, HX, HGX, HHX, HFX⟩ := hrel
     by_cases hx : x < m + 1
     rotate_left
     ·have q1 : decide ((x : Int) < ((m + 1 : Nat) : Int)) = false := decide_eq_false (by omega)
      have q2 : decide (x < m + 1) = false := decide_eq_false hx
      have q3 : decide ((x : Int) < (m : Int) + 1) = false := decide_eq_false (by omega)
      have HXE := Aside0.mk (show x = m + 1 from by have := HX.out; omega)
      go_wp2_with fail
      go_roundw
      case rel => exact ⟨s + 1, (by first | exact congrArg _ (wS_g (by omega)) | exact congrArg _ (by omega : (s : Int) + 1 = ((s + 1 : Nat) : Int))), ⟨hlt⟩, ⟨Go.Proofs.YtcnekpdoldljgaaGreat.Mem.below_grown HB.out HGX.out (by rw [HBO.out]; exact Nat.le_refl _)⟩, ⟨by rw [polyTo, HM.out, HOLD.out, ← HXE.out]; exact HHX.out⟩⟩
      case measure => (try rw [wS_g (by omega)]); simp [intOf]; omega
     have q1 : decide ((x : Int) < ((m + 1 : Nat) : Int)) = true := decide_eq_true (by omega)
     have q2 : decide (x < m + 1) = true := decide_eq_true hx
     have q3 : decide ((x : Int) < (m : Int) + 1) = true := decide_eq_true (by omega)
     have hxn : x < n + 1 := by have := HCN.out; omega
     have q4 : decide ((x : Int) < ((n + 1 : Nat) : Int)) = true := decide_eq_true (by omega)
     have q5 : decide (x < n + 1) = true := decide_eq_true hxn
     have q6 : decide ((x : Int) < (n : Int) + 1) = true := decide_eq_true (by omega)
     obtain ⟨af, eaf, hcf⟩ := cell_of_C (Kd.F_now HFX.out) x hx
     subst eaf
     have hlen2 : (addTo old (powC m) x).length = n + 1 := by rw [addTo_len, HOL.out]
     have hci : wr.cell? ⟨Bo, x, none⟩ = some (.int .i64 (old.getD x 0)) := by
      rw [← addTo_at old (powC m) x (by rw [HOL.out]; exact hxn)]
      have := nums_get (addTo old (powC m) x) x (by rw [hlen2]; exact hxn)
      simpa [World.cell?, HHX.out] using this
     have hfi : wr.frozen? ⟨Bo, x, none⟩ = false := by simp [World.frozen?, HHX.out]
     obtain ⟨y, hy⟩ : ∃ y, (powC m).getD x 0 = y := ⟨_, rfl⟩
     obtain ⟨z, hz⟩ : ∃ z, old.getD x 0 = z := ⟨_, rfl⟩
     have hsum : wrap64 (z + y) = z + y := by have := HOB.out x; rw [hy, hz] at this; unfold wrap64; omega
     have hset := addTo_succ old (powC m) x (by rw [HOL.out]; exact hxn)
     rw [hy] at hcf hset
     rw [hz] at hci hset
     have HSUM := Aside0.mk hsum
     have HSET := Aside0.mk hset
     have hcf' : wr.drew.cell? (af.add x) = some (.int .i64 y) := hcf
     have hci' : wr.drew.cell? ⟨Bo, x, none⟩ = some (.int .i64 z) := hci
     have hfi' : wr.drew.frozen? ⟨Bo, x, none⟩ = false := hfi
     clear hy hz hsum hset hlen2
     go_wp2_with fail
     go_region
     all_goals
      go_wp2_with fail
      go_roundw
      case rel => exact ⟨x + 1, (by first | exact congrArg _ (wS_g (by omega)) | exact congrArg _ (by omega : (x : Int) + 1 = ((x + 1 : Nat) : Int))), ⟨hx⟩, ⟨grown_drewN (grown_set HGX.out x _) 1⟩, ⟨by refine Eq.trans (blk_drewN (blk_set HHX.out x _) 1) ?_; rw [HSUM.out, nums_set, HSET.out]⟩, ⟨Kd.F_drew (Kd.F_far HFX.out (fun k hk => hk) _)⟩⟩
      case measure => (try rw [wS_g (by omega)]); simp [intOf]; omega
   ·obtain ⟨d', rfl⟩ : ∃ d', d = d' + 1 := ⟨d - 1, by omega⟩
    have r1 : decide (((d' + 1 : Nat) : Int) > 0) = true := decide_eq_true (by omega)
    have r2 : decide (0 < d' + 1) = true := decide_eq_true (by omega)
    have r3 : decide ((0 : Int) < (d' : Int) + 1) = true := decide_eq_true (by omega)
    have hj6 : j < 6 := by have := HJ.out; omega
    have HJ6 := Aside0.mk hj6
    have HWD := Aside0.mk (show wrap64 (d' : Int) = (d' : Int) from by have := HJ.out; unfold wrap64; omega)
    have hmk2 := make_ints (P := Tryz.prog) Tryz.underlying37 info2 ((j : Int) + 1 + 1) (j + 2) (by omega) (by omega)
    clear hjm hBO hBn
    go_wp2_with fail
    obtain ⟨wa, hwa⟩ : ∃ wa, wo.alloc (.cells (nums .i64 (List.replicate (j + 2) 0)).toArray 2) = wa := ⟨_, rfl⟩
    rw [hwa, ← HBN.out]
    have HHN := Aside0.mk (show wa.heap[Bn]? = some (.cells (nums .i64 (nxtTo (powC j) 0)).toArray 2 (0, 0)) from by rw [← hwa, nxtTo, hlenP]; exact new_at HBN.out)
    have HGA := Aside0.mk (show wo.grownBy wa (some Bn) from by rw [← hwa]; exact grown_alloc (grown_refl _ _) _)
    have HFA := Aside0.mk (show Kd.F (Kd.int .i64) wa (fun k => k ≠ Bn) A6 (j + 1) (powC j) from by rw [← hwa]; exact Kd.F_alloc HF.out _)
    have HNX := Aside0.mk (nxt_powC j hj6)
    clear hwa HF HF2 HRJ hlenP hmk2
    go_loopw [11] (fun s11 wq => ∃ x : Nat, s11 = .int .i64 (x : Int) ∧ Aside0 (x ≤ j + 1) ∧ Aside0 (wo.grownBy wq (some Bn)) ∧ Aside0 (wq.heap[Bn]? = some (.cells (nums .i64 (nxtTo (powC j) x)).toArray 2 (0, 0))) ∧ Aside0 (Kd.F (Kd.int .i64) wq (fun k => k ≠ Bn) A6 (j + 1) (powC j)))
     (fun s11 _ => j + 1 - (intOf s11).toNat)
    case atStart => exact ⟨0, rfl, ⟨Nat.zero_le _⟩, HGA, HHN, HFA⟩
    case round =>
     clear HGA HHN HFA
     obtain ⟨x, rfl, HX, HGX, HHX, HFX⟩ := hrel
     by_cases hx : x < j + 1
     rotate_left
     ·have q1 : decide ((x : Int) < ((j + 1 : Nat) : Int)) = false := decide_eq_false (by omega)
      have q2 : decide (x < j + 1) = false := decide_eq_false hx
      have q3 : decide ((x : Int) < (j : Int) + 1) = false := decide_eq_false (by omega)
      have HXE := Aside0.mk (show x = j + 1 from by have := HX.out; omega)
      go_wp2_with fail
      go_roundw
      case rel => exact ⟨j + 1, d', (by first | rfl | exact congrArg _ HWD.out), ⟨by have := HJ.out; omega⟩, ⟨Go.Proofs.YtcnekpdoldljgaaGreat.Mem.below_grown HB.out HGX.out (by have := HBN.out; have := HB.out.size; omega)⟩, ⟨(HGX.out.block Bo (by have := HBN.out; have := HBON.out; omega) (fun e => by have := HBON.out; have := Option.some.inj e; omega)).trans HH.out⟩, ⟨Kd.R_mono (ok' := fun k => k ≠ Bo) (R_of_block_ok (m := j + 2) (by have h := HHX.out; rw [HXE.out, HNX.out] at h; exact h) (by rw [powC_len]) (by unfold maxLen; omega) (by have := HBN.out; have := HB.out.size; omega) (fun k => k = Bn) rfl) (fun k hk => by have := HBON.out; omega)⟩⟩
      case measure => (try rw [HWD.out]); simp [intOf]
     have q1 : decide ((x : Int) < ((j + 1 : Nat) : Int)) = true := decide_eq_true (by omega)
     have q2 : decide (x < j + 1) = true := decide_eq_true hx
     have q3 : decide ((x : Int) < (j : Int) + 1) = true := decide_eq_true (by omega)
     have q4 : decide ((x : Int) < ((j + 2 : Nat) : Int)) = true := decide_eq_true (by omega)
     have q5 : decide (x < j + 2) = true := decide_eq_true (by omega)
     have q6 : decide ((x : Int) < (j : Int) + 2) = true := decide_eq_true (by omega)
     have q7 : decide (x + 1 < j + 2) = true := decide_eq_true (by omega)
     have q8 : decide ((x : Int) + 1 < ((j + 2 : Nat) : Int)) = true := decide_eq_true (by omega)
     have q9 : decide ((x : Int) + 1 < (j : Int) + 2) = true := decide_eq_true (by omega)
     have hpl : (powC j).length = j + 1 := powC_len j
     have hnl : (nxtTo (powC j) x).length = j + 2 := by rw [nxtTo_len, hpl]
     obtain ⟨af, eaf, hcf⟩ := cell_of_C (Kd.F_now HFX.out) x hx
     subst eaf
     obtain ⟨y, hy⟩ : ∃ y, (powC j).getD x 0 = y := ⟨_, rfl⟩
     obtain ⟨old, hold⟩ : ∃ old, nxtTo (powC j) x = old := ⟨_, rfl⟩
     have hS : nxtTo (powC j) (x + 1) = (old.set x (wrap64 (old.getD x 0 - y))).set (x + 1) (wrap64 ((old.set x (wrap64 (old.getD x 0 - y))).getD (x + 1) 0 + y)) := by rw [nxtTo, hold, hy]
     rw [hold] at hnl HHX
     obtain ⟨z, hz⟩ : ∃ z, old.getD x 0 = z := ⟨_, rfl⟩
     obtain ⟨z2, hz2⟩ : ∃ z2, wrap64 (z - y) = z2 := ⟨_, rfl⟩
     rw [hz, hz2] at hS
     obtain ⟨mid, hmid⟩ : ∃ mid, old.set x z2 = mid := ⟨_, rfl⟩
     have hml : mid.length = j + 2 := by rw [← hmid, List.length_set, hnl]
     rw [hmid] at hS
     obtain ⟨z3, hz3⟩ : ∃ z3, mid.getD (x + 1) 0 = z3 := ⟨_, rfl⟩
     rw [hz3] at hS
     have hci : wr.drew.cell? ⟨Bn, x, none⟩ = some (.int .i64 z) := by
      rw [← hz]
      have h1 := nums_get old x (by rw [hnl]; omega)
      have h2 : wr.cell? ⟨Bn, x, none⟩ = some (.int .i64 (old.getD x 0)) := by simpa [World.cell?, HHX.out] using h1
      exact h2
     have hfi : wr.drew.frozen? ⟨Bn, x, none⟩ = false := blk_frozen (blk_drewN HHX.out 1) x
     rw [hy] at hcf
     have hcf' : wr.drew.cell? (af.add x) = some (.int .i64 y) := hcf
     have HZ2 := Aside0.mk hz2
     have HS1 := Aside0.mk hS
     have HHM : Aside0 ((wr.drew.setCell ⟨Bn, x, none⟩ (.int .i64 z2)).heap[Bn]? = some (.cells (nums .i64 mid).toArray 2 (0, 0))) := ⟨by refine Eq.trans (blk_set (blk_drewN HHX.out 1) x _) ?_; rw [nums_set, hmid]⟩
     have HFM : Aside0 (Kd.F (Kd.int .i64) (wr.drew.setCell ⟨Bn, x, none⟩ (.int .i64 z2)) (fun k => k ≠ Bn) (some af) (j + 1) (powC j)) := ⟨Kd.F_far (Kd.F_drew HFX.out) (fun k hk => hk) _⟩
     have HGM : Aside0 (wo.grownBy (wr.drew.setCell ⟨Bn, x, none⟩ (.int .i64 z2)) (some Bn)) := ⟨grown_set (grown_drewN HGX.out 1) x _⟩
     have HML := Aside0.mk hml
     have HY := Aside0.mk hy
     have HZ3 := Aside0.mk hz3
     clear hz hz2 hmid hS hold hnl hml hpl hy hz3
     go_wp2_with fail
     go_region
     all_goals
      go_wp2_with fail
      simp only [HZ2.out]
      obtain ⟨wm, hwm⟩ : ∃ wm, (wr.setCell ⟨Bn, x, none⟩ (.int .i64 z2)).drew = wm := ⟨_, rfl⟩
      rw [hwm]
      have HHM2 := Aside0.mk (show wm.heap[Bn]? = some (.cells (nums .i64 mid).toArray 2 (0, 0)) from by rw [← hwm]; exact HHM.out)
      have HGM2 := Aside0.mk (show wo.grownBy wm (some Bn) from by rw [← hwm]; exact grown_drewN (grown_set HGX.out x _) 1)
      have HFM2 := Aside0.mk (show Kd.F (Kd.int .i64) wm (fun k => k ≠ Bn) (some af) (j + 1) (powC j) from by rw [← hwm]; exact Kd.F_drew (Kd.F_far HFX.out (fun k hk => hk) _))
      clear hwm hci hfi hcf' hcf HHM HFM HGM HFX HHX HGX
      obtain ⟨af2, eaf2, hcf2⟩ := cell_of_C (Kd.F_now HFM2.out) x hx
      cases eaf2
      rw [HY.out] at hcf2
      have hci2 : wm.drew.cell? ⟨Bn, x + 1, none⟩ = some (.int .i64 z3) := by
       rw [← HZ3.out]
       have h1 := nums_get mid (x + 1) (by rw [HML.out]; omega)
       have h2 : wm.cell? ⟨Bn, x + 1, none⟩ = some (.int .i64 (mid.getD (x + 1) 0)) := by simpa [World.cell?, HHM2.out] using h1
       exact h2
      have hfi2 : wm.drew.frozen? ⟨Bn, x + 1, none⟩ = false := blk_frozen (blk_drewN HHM2.out 1) (x + 1)
      have hcf3 : wm.drew.cell? (af.add x) = some (.int .i64 y) := hcf2
      go_wp2_with fail
      go_region
      all_goals
       go_wp2_with fail
       go_roundw
       case rel => exact ⟨x + 1, (by first | exact congrArg _ (wS_g (by omega)) | exact congrArg _ (by omega : (x : Int) + 1 = ((x + 1 : Nat) : Int))), ⟨hx⟩, ⟨grown_drewN (grown_set HGM2.out (x + 1) _) 1⟩, ⟨by refine Eq.trans (blk_drewN (blk_set HHM2.out (x + 1) _) 1) ?_; rw [nums_set, HS1.out]⟩, ⟨Kd.F_drew (Kd.F_far HFM2.out (fun k hk => hk) _)⟩⟩
       case measure => (try rw [wS_g (by omega)]); simp [intOf]; omega
end Go.Proofs.YtcnekpdoldljgaaGreat.F
end
section
namespace Go.Proofs.YtcnekpdoldljgaaGreat.F
open Go.RowKit Go.Proofs.YtcnekpdoldljgaaGreatW.PrintWords Go.Proofs.YtcnekpdoldljgaaGreatW.PrintLast Go.Proofs.YtcnekpdoldljgaaGreatW.PrintMore
attribute [local go_sem] max2_int min2_int max_two min_two max_three min_three max_four min_four   
set_option linter.unusedVariables false
set_option linter.unusedSimpArgs false
def spec_InterlacePolynomial.f (k : Nat) (l0 : List Int) : Option (List Int × Int) := (spec_l10Code.f k l0 ([] : List Int)).bind fun t171001 => (if t171001 = 0 then ((spec_l10Interlace.f l0).bind fun t171002 => (some (t171002, 0))) else (some (([] : List Int), t171001)))
theorem spec_InterlacePolynomial.mono : ∀ a0 k, LeO (spec_InterlacePolynomial.f k a0) (spec_InterlacePolynomial.f (k + 1) a0) := by
  intro a0 k
  unfold spec_InterlacePolynomial.f
  repeat' first
      | (with_reducible exact spec_l10Code.mono _ _ _)
      | (with_reducible exact LeO.refl _)
      | (with_reducible exact LeO.none _)
      | (with_reducible refine LeO.ite ?_ ?_)
      | (with_reducible refine LeO.bind ?_ (fun _ => ?_))
      | exact spec_l10Code.mono _ _ _
      | exact LeO.none _
      | refine LeO.ite ?_ ?_
      | refine LeO.bind ?_ (fun _ => ?_)
set_option maxHeartbeats 8000000 in
set_option maxRecDepth 100000 in
theorem spec_InterlacePolynomial.calls (k : Nat) (A0 : Option Addr) (c0 : Nat) (l0 : List Int) (r1 : List Int) (r2 : Int) (w : World) (hr0 : Kd.C (Kd.int .i64) w A0 l0.length l0) (hc0 : l0.length ≤ c0) (h : spec_InterlacePolynomial.f k l0 = some (r1, r2)) :
    Calls Tryz.prog 17 #[.slice A0 l0.length c0] w fun e w' => ∃ v0_ : Value, e = .returned (.tuple #[v0_, .int .i64 r2]) ∧ Kd.R (Kd.int .i64) 2 w' w.heap.size (fun _ => True) v0_ r1 ∧ Below w.heap.size w w' := by
  have HR0 := Aside0.mk hr0
  have HC0 := Aside0.mk hc0
  clear hr0 hc0
  have HB := Aside0.mk (Below.refl w.heap.size w)
  have H : ((spec_l10Code.f k l0 ([] : List Int)).bind fun t171001 => (if t171001 = 0 then ((spec_l10Interlace.f l0).bind fun t171002 => (some (t171002, 0))) else (some (([] : List Int), t171001)))) = some (r1, r2) := h
  clear h
  replace H := Option.bind_eq_some_iff.mp H
  obtain ⟨t171001, A20, H⟩ := H
  replace H : (if t171001 = 0 then ((spec_l10Interlace.f l0).bind fun t171002 => (some (t171002, 0))) else (some (([] : List Int), t171001))) = some (r1, r2) := H
  have A2 := Aside0.mk A20
  clear A20
  by_cases c3 : t171001 = 0
  rotate_left
  · rw [if_neg c3] at H
    have c3b0 : (t171001 == 0) = false := beq_eq_false_iff_ne.mpr c3
    have c3b1 : (t171001 != 0) = true := bne_iff_ne.mpr c3
    simp only [Option.some.injEq, Prod.mk.injEq] at H
    obtain ⟨rfl, rfl⟩ := H
    go_enter Tryz.func17, Tryz.ntmps17
    go_wp2_with (first | ((with_reducible refine gate_callee (f := 58) rfl ?_); refine goesL_ (some 6) rfl rfl Tryz.func58 (by kernel_rfl) rfl #[.slice A0 l0.length c0, .slice none 0 0] rfl (by (try simp only [List.map_toArray, List.map_cons, List.map_nil]); first | done | rfl | (simp only [List.length_drop, List.length_take]; rfl)) ?_; (refine (spec_l10Code.calls k _ _ l0 _ _ ([] : List Int) t171001 _ ?side1 ?side2 ?side3 ?side4 A2.out).mono ?_); (case side1 => repeat (first | exact HR0.out | (with_reducible refine Kd.C_alloc ?_ _) | (with_reducible refine Kd.C_drewN ?_ _) | (with_reducible refine Kd.C_drew ?_))); (case side2 => exact HC0.out); (case side3 => exact Kd.C_nil _ _); (case side4 => exact Nat.le_refl _); rintro e w7 ⟨rfl, hb⟩; refine ⟨_, rfl, ?_⟩; have n0_ := Aside0.mk (below_step (by repeat (first | (with_reducible first | exact HB.out | apply below_alloc | apply pw_below_drewN | apply below_drew1) | exact HB.out)) hb); clear HB; have HB := n0_; clear n0_; (try clear hb); (try clear hb2); (try clear hk); (try clear hi)))
    go_ret2
    exact ⟨_, by first | rfl | (simp [errW_none, errW_some] <;> rfl) | (simp [*, errW_none, errW_some] <;> rfl), by first | exact Kd.R_nil _ _ _ _ _ | exact Kd.N_nil _ _ _ _ _ | exact Kd.V_nil _ _ _ _ _ | exact Kd.Q_nil _ _ _ _ _ | exact Kd.S_nil _ _ _ _ _, by repeat (first | (with_reducible first | exact HB.out | apply below_alloc | apply pw_below_drewN | apply below_drew1) | exact HB.out)⟩
  rw [if_pos c3] at H
  have c3b0 : (t171001 == 0) = true := beq_iff_eq.mpr c3
  have c3b1 : (t171001 != 0) = false := bne_eq_false_iff_eq.mpr c3
  clear c3
  replace H := Option.bind_eq_some_iff.mp H
  obtain ⟨t171002, A40, H⟩ := H
  replace H : (some (t171002, 0)) = some (r1, r2) := H
  have A4 := Aside0.mk A40
  clear A40
  simp only [Option.some.injEq, Prod.mk.injEq] at H
  obtain ⟨rfl, rfl⟩ := H
  go_enter Tryz.func17, Tryz.ntmps17
  go_wp2_with (first | ((with_reducible refine gate_callee (f := 58) rfl ?_); refine goesL_ (some 6) rfl rfl Tryz.func58 (by kernel_rfl) rfl #[.slice A0 l0.length c0, .slice none 0 0] rfl (by (try simp only [List.map_toArray, List.map_cons, List.map_nil]); first | done | rfl | (simp only [List.length_drop, List.length_take]; rfl)) ?_; (refine (spec_l10Code.calls k _ _ l0 _ _ ([] : List Int) t171001 _ ?side1 ?side2 ?side3 ?side4 A2.out).mono ?_); (case side1 => repeat (first | exact HR0.out | (with_reducible refine Kd.C_alloc ?_ _) | (with_reducible refine Kd.C_drewN ?_ _) | (with_reducible refine Kd.C_drew ?_))); (case side2 => exact HC0.out); (case side3 => exact Kd.C_nil _ _); (case side4 => exact Nat.le_refl _); rintro e w5 ⟨rfl, hb⟩; refine ⟨_, rfl, ?_⟩; have n0_ := Aside0.mk (below_step (by repeat (first | (with_reducible first | exact HB.out | apply below_alloc | apply pw_below_drewN | apply below_drew1) | exact HB.out)) hb); clear HB; have HB := n0_; clear n0_; (try clear hb); (try clear hb2); (try clear hk); (try clear hi)) | ((with_reducible refine gate_callee (f := 59) rfl ?_); refine goesL_ (some 11) rfl rfl Tryz.func59 (by kernel_rfl) rfl #[.slice A0 l0.length c0] rfl (by (try simp only [List.map_toArray, List.map_cons, List.map_nil]); first | done | rfl | (simp only [List.length_drop, List.length_take]; rfl)) ?_; (with_reducible refine (spec_l10Interlace.calls _ _ l0 t171002 _ ?side1 ?side2 A4.out).mono ?_); (case side1 => repeat (first | exact (Kd.C_below HR0.out HB.out) | (with_reducible refine Kd.C_alloc ?_ _) | (with_reducible refine Kd.C_drewN ?_ _) | (with_reducible refine Kd.C_drew ?_))); (case side2 => exact HC0.out); rintro e w6 ⟨v171003, rfl, ho0, hb⟩; refine ⟨_, rfl, ?_⟩; have n0_ := Aside0.mk (Kd.R_lower ho0 (below_size (by repeat (first | (with_reducible first | exact HB.out | apply below_alloc | apply pw_below_drewN | apply below_drew1) | exact HB.out)))); have n1_ := Aside0.mk (below_step (by repeat (first | (with_reducible first | exact HB.out | apply below_alloc | apply pw_below_drewN | apply below_drew1) | exact HB.out)) hb); clear HB; have HO171004 := n0_; have HB := n1_; clear n0_ n1_; (try clear hb); (try clear hb2); (try clear hk); (try clear hi); (try clear ho0)))
  go_ret2
  exact ⟨_, by first | rfl | (simp [errW_none, errW_some] <;> rfl) | (simp [*, errW_none, errW_some] <;> rfl), by (with_reducible repeat (first | apply Kd.R_alloc | apply Kd.R_drewN | apply Kd.R_drew)); exact HO171004.out, by repeat (first | (with_reducible first | exact HB.out | apply below_alloc | apply pw_below_drewN | apply below_drew1) | exact HB.out)⟩
end Go.Proofs.YtcnekpdoldljgaaGreat.F
end
section
namespace Go.Proofs.YtcnekpdoldljgaaGreat.F
open Go.RowKit Go.Proofs.YtcnekpdoldljgaaGreatW.PrintWords Go.Proofs.YtcnekpdoldljgaaGreatW.PrintLast Go.Proofs.YtcnekpdoldljgaaGreatW.PrintMore
attribute [local go_sem] max2_int min2_int max_two min_two max_three min_three max_four min_four   
set_option linter.unusedVariables false
set_option linter.unusedSimpArgs false
def laws_likeInts.l0 : Nat → List Int → List Int → Int → Option (Bool)
  | 0, _, _, _ => none
  | k + 1, x0, x1, x5 => if x5 < (x0.length : Int) then (if 0 ≤ x5 then (if x5 < (x1.length : Int) then (if (rd x0 x5) = (rd x1 x5) then (laws_likeInts.l0 k x0 x1 (wrap64 (x5 + 1))) else (some false)) else (none)) else (none)) else (some true)
def laws_likeInts.f (k : Nat) (l0 : List Int) (l1 : List Int) : Option (Bool) := if (l0.length : Int) = (l1.length : Int) then (laws_likeInts.l0 k l0 l1 0) else (some false)
theorem laws_likeInts.mono_l : ∀ k, (∀ y0 y1 y2, LeO (laws_likeInts.l0 k y0 y1 y2) (laws_likeInts.l0 (k + 1) y0 y1 y2))
  | 0 => fun _ _ _ r h => by simp [laws_likeInts.l0] at h
  | k + 1 => by
    have ih0 := laws_likeInts.mono_l k
    · intro y0 y1 y2
      unfold laws_likeInts.l0
      repeat' first
      | (with_reducible exact ih0 _ _ _)
      | (with_reducible exact LeO.refl _)
      | (with_reducible exact LeO.none _)
      | (with_reducible refine LeO.ite ?_ ?_)
      | (with_reducible refine LeO.bind ?_ (fun _ => ?_))
      | exact ih0 _ _ _
      | exact LeO.none _
      | refine LeO.ite ?_ ?_
      | refine LeO.bind ?_ (fun _ => ?_)
theorem laws_likeInts.mono : ∀ a0 a1 k, LeO (laws_likeInts.f k a0 a1) (laws_likeInts.f (k + 1) a0 a1) := by
  intro a0 a1 k
  have ih0 := laws_likeInts.mono_l k
  unfold laws_likeInts.f
  repeat' first
      | (with_reducible exact ih0 _ _ _)
      | (with_reducible exact LeO.refl _)
      | (with_reducible exact LeO.none _)
      | (with_reducible refine LeO.ite ?_ ?_)
      | (with_reducible refine LeO.bind ?_ (fun _ => ?_))
      | exact ih0 _ _ _
      | exact LeO.none _
      | refine LeO.ite ?_ ?_
      | refine LeO.bind ?_ (fun _ => ?_)
set_option maxHeartbeats 8000000 in
set_option maxRecDepth 100000 in
theorem laws_likeInts.calls (k : Nat) (A0 : Option Addr) (c0 : Nat) (l0 : List Int) (A1 : Option Addr) (c1 : Nat) (l1 : List Int) (r : Bool) (w : World) (hr0 : Kd.C (Kd.int .i64) w A0 l0.length l0) (hc0 : l0.length ≤ c0) (hr1 : Kd.C (Kd.int .i64) w A1 l1.length l1) (hc1 : l1.length ≤ c1) (h : laws_likeInts.f k l0 l1 = some r) :
    Calls Tryz.prog 18 #[.slice A0 l0.length c0, .slice A1 l1.length c1] w fun e w' => e = .returned (.bool r) ∧ Drawn0 w w' := by
  have HR0 := Aside0.mk hr0
  have HC0 := Aside0.mk hc0
  clear hr0 hc0
  have HR1 := Aside0.mk hr1
  have HC1 := Aside0.mk hc1
  clear hr1 hc1
  have H : (if (l0.length : Int) = (l1.length : Int) then (laws_likeInts.l0 k l0 l1 0) else (some false)) = some r := h
  clear h
  by_cases c3 : (l0.length : Int) = (l1.length : Int)
  rotate_left
  · rw [if_neg c3] at H
    have c3b0 : ((l0.length : Int) == (l1.length : Int)) = false := beq_eq_false_iff_ne.mpr c3
    have c3b1 : ((l0.length : Int) != (l1.length : Int)) = true := bne_iff_ne.mpr c3
    have c3b2 : (l0.length == l1.length) = false := by first | simpa using c3 | (simp at c3 ⊢; omega)
    obtain rfl := Option.some.inj H
    go_enter Tryz.func18, Tryz.ntmps18
    go_wp2
    repeat (go_quiet (fail); try go_wp2)
    go_ret
    exact ⟨by first | rfl | (simp; done) | (simp [*]; done), by repeat (first | exact Drawn0.refl _ | apply Drawn0.step)⟩
  rw [if_pos c3] at H
  have c3b0 : ((l0.length : Int) == (l1.length : Int)) = true := beq_iff_eq.mpr c3
  have c3b1 : ((l0.length : Int) != (l1.length : Int)) = false := bne_eq_false_iff_eq.mpr c3
  have c3b2 : (l0.length == l1.length) = true := by first | simpa using c3 | (simp at c3 ⊢; omega)
  clear c3
  have H' := Aside0.mk H
  clear H
  go_enter Tryz.func18, Tryz.ntmps18
  go_wp2
  repeat (go_quiet (fail); try go_wp2)
  go_loopg [5] k (fun kq v5 w' => ∃ (x5_1 : Int), v5 = .int .i64 x5_1 ∧ Aside0 (laws_likeInts.l0 kq l0 l1 x5_1 = some r) ∧ Aside0 (kq ≤ k) ∧ Drawn0 w w')
  case atStart => exact ⟨(0), (by first | rfl | (simp; done) | (simp [*]; done)), H', ⟨Nat.le_refl _⟩, by repeat (first | exact Drawn0.refl _ | apply Drawn0.step)⟩
  case round =>
    clear H'
    try clear c1
    try clear p2
    try clear c3
    try clear c3b0
    try clear c3b1
    try clear c3b2
    obtain ⟨x5_1, rfl, HA, HK1, ⟨m1, rfl⟩⟩ := hrel
    cases gk with
    | zero => exact absurd HA.out (by simp [laws_likeInts.l0])
    | succ k1 =>
      have H := HA.out
      clear HA
      simp only [laws_likeInts.l0] at H
      by_cases c4 : x5_1 < (l0.length : Int)
      rotate_left
      · rw [if_neg c4] at H
        have c4b0 : decide (x5_1 < (l0.length : Int)) = false := decide_eq_false c4
        clear c4
        obtain rfl := Option.some.inj H
        go_wp2
        repeat (go_quiet (fail); try go_wp2)
        go_ret
        exact ⟨by first | rfl | (simp; done) | (simp [*]; done), by repeat (first | exact Drawn0.refl _ | apply Drawn0.step)⟩
      rw [if_pos c4] at H
      have c4b0 : decide (x5_1 < (l0.length : Int)) = true := decide_eq_true c4
      clear c4
      by_cases c5 : 0 ≤ x5_1
      rotate_left
      · rw [if_neg c5] at H
        exact absurd H (by simp)
      rw [if_pos c5] at H
      have c5b0 : decide (0 ≤ x5_1) = true := decide_eq_true c5
      clear c5
      by_cases c6 : x5_1 < (l1.length : Int)
      rotate_left
      · rw [if_neg c6] at H
        exact absurd H (by simp)
      rw [if_pos c6] at H
      have c6b0 : decide (x5_1 < (l1.length : Int)) = true := decide_eq_true c6
      clear c6
      by_cases c7 : (rd l0 x5_1) = (rd l1 x5_1)
      rotate_left
      · rw [if_neg c7] at H
        have c7b0 : ((rd l0 x5_1) == (rd l1 x5_1)) = false := beq_eq_false_iff_ne.mpr c7
        have c7b1 : ((rd l0 x5_1) != (rd l1 x5_1)) = true := bne_iff_ne.mpr c7
        obtain rfl := Option.some.inj H
        have p181001 : 0 ≤ (x5_1 : Int) := of_decide_eq_true (by first | (with_reducible assumption) | assumption)
        have q181001 : x5_1 < (l0.length : Int) := of_decide_eq_true (by first | (with_reducible assumption) | assumption)
        obtain ⟨ad181001, e181001, hx181001_0⟩ := Kd.at_int HR0.out x5_1 p181001 q181001
        cases e181001
        replace p181001 := eq_true p181001
        replace q181001 := eq_true q181001
        have p181002 : 0 ≤ (x5_1 : Int) := of_decide_eq_true (by first | (with_reducible assumption) | assumption)
        have q181002 : x5_1 < (l1.length : Int) := of_decide_eq_true (by first | (with_reducible assumption) | assumption)
        obtain ⟨ad181002, e181002, hx181002_0⟩ := Kd.at_int HR1.out x5_1 p181002 q181002
        cases e181002
        replace p181002 := eq_true p181002
        replace q181002 := eq_true q181002
        go_wp2
        repeat (go_quiet (fail); try go_wp2)
        go_ret
        exact ⟨by first | rfl | (simp; done) | (simp [*]; done), by repeat (first | exact Drawn0.refl _ | apply Drawn0.step)⟩
      rw [if_pos c7] at H
      have c7b0 : ((rd l0 x5_1) == (rd l1 x5_1)) = true := beq_iff_eq.mpr c7
      have c7b1 : ((rd l0 x5_1) != (rd l1 x5_1)) = false := bne_eq_false_iff_eq.mpr c7
      clear c7
      have H' := Aside0.mk H
      clear H
      have p181001 : 0 ≤ (x5_1 : Int) := of_decide_eq_true (by first | (with_reducible assumption) | assumption)
      have q181001 : x5_1 < (l0.length : Int) := of_decide_eq_true (by first | (with_reducible assumption) | assumption)
      obtain ⟨ad181001, e181001, hx181001_0⟩ := Kd.at_int HR0.out x5_1 p181001 q181001
      cases e181001
      replace p181001 := eq_true p181001
      replace q181001 := eq_true q181001
      have p181002 : 0 ≤ (x5_1 : Int) := of_decide_eq_true (by first | (with_reducible assumption) | assumption)
      have q181002 : x5_1 < (l1.length : Int) := of_decide_eq_true (by first | (with_reducible assumption) | assumption)
      obtain ⟨ad181002, e181002, hx181002_0⟩ := Kd.at_int HR1.out x5_1 p181002 q181002
      cases e181002
      replace p181002 := eq_true p181002
      replace q181002 := eq_true q181002
      go_wp2
      repeat (go_quiet (fail); try go_wp2)
      go_roundg k1
      case measure => have := HK1.out; omega
      case rel => exact ⟨(wrap64 (x5_1 + 1)), (by first | rfl | (simp; done) | (simp [*]; done)), H', ⟨by have := HK1.out; omega⟩, by repeat (first | exact Drawn0.refl _ | apply Drawn0.step)⟩
end Go.Proofs.YtcnekpdoldljgaaGreat.F
end
section
namespace Go.Proofs.YtcnekpdoldljgaaGreat.F
open Go.RowKit Go.Proofs.YtcnekpdoldljgaaGreatW.PrintWords Go.Proofs.YtcnekpdoldljgaaGreatW.PrintLast Go.Proofs.YtcnekpdoldljgaaGreatW.PrintMore
attribute [local go_sem] max2_int min2_int max_two min_two max_three min_three max_four min_four   
set_option linter.unusedVariables false
set_option linter.unusedSimpArgs false
def spec_DrawValueOfInterlace.f (k : Nat) (l0 : List Int) : Option (List Int × Int) := (spec_l01From.f k l0).bind fun bt191001 => ((spec_l01Spoil.f k bt191001.1 bt191001.2.1 bt191001.2.2).bind fun bt191005 => ((spec_l01Pick.f bt191001.1 bt191005.2.1 bt191005.2.2 (([0, 1, 2, (-1), 3, 100, 101, (-100)] : List Int))).bind fun bt191013 => (some (bt191005.1, bt191013.1))))
theorem spec_DrawValueOfInterlace.mono : ∀ a0 k, LeO (spec_DrawValueOfInterlace.f k a0) (spec_DrawValueOfInterlace.f (k + 1) a0) := by
  intro a0 k
  unfold spec_DrawValueOfInterlace.f
  repeat' first
      | (with_reducible exact spec_l01From.mono _ _)
      | (with_reducible exact spec_l01Spoil.mono _ _ _ _)
      | (with_reducible exact LeO.refl _)
      | (with_reducible exact LeO.none _)
      | (with_reducible refine LeO.ite ?_ ?_)
      | (with_reducible refine LeO.bind ?_ (fun _ => ?_))
      | exact spec_l01From.mono _ _
      | exact spec_l01Spoil.mono _ _ _ _
      | exact LeO.none _
      | refine LeO.ite ?_ ?_
      | refine LeO.bind ?_ (fun _ => ?_)
set_option maxHeartbeats 8000000 in
set_option maxRecDepth 100000 in
theorem spec_DrawValueOfInterlace.calls (k : Nat) (A0 : Option Addr) (c0 : Nat) (l0 : List Int) (r1 : List Int) (r2 : Int) (w : World) (hr0 : Kd.C (Kd.int .u8) w A0 l0.length l0) (hc0 : l0.length ≤ c0) (h : spec_DrawValueOfInterlace.f k l0 = some (r1, r2)) :
    Calls Tryz.prog 19 #[.slice A0 l0.length c0] w fun e w' => ∃ v0_ : Value, e = .returned (.tuple #[v0_, .int .i64 r2]) ∧ Kd.R (Kd.int .i64) 2 w' w.heap.size (fun _ => True) v0_ r1 ∧ Below w.heap.size w w' := by
  have HR0 := Aside0.mk hr0
  have HC0 := Aside0.mk hc0
  clear hr0 hc0
  have HB := Aside0.mk (Below.refl w.heap.size w)
  have H : ((spec_l01From.f k l0).bind fun bt191001 => ((spec_l01Spoil.f k bt191001.1 bt191001.2.1 bt191001.2.2).bind fun bt191005 => ((spec_l01Pick.f bt191001.1 bt191005.2.1 bt191005.2.2 (([0, 1, 2, (-1), 3, 100, 101, (-100)] : List Int))).bind fun bt191013 => (some (bt191005.1, bt191013.1))))) = some (r1, r2) := h
  clear h
  replace H := Option.bind_eq_some_iff.mp H
  obtain ⟨⟨t191001, t191002, t191003⟩, A20, H⟩ := H
  replace H : ((spec_l01Spoil.f k t191001 t191002 t191003).bind fun bt191005 => ((spec_l01Pick.f t191001 bt191005.2.1 bt191005.2.2 (([0, 1, 2, (-1), 3, 100, 101, (-100)] : List Int))).bind fun bt191013 => (some (bt191005.1, bt191013.1)))) = some (r1, r2) := H
  have A2 := Aside0.mk A20
  clear A20
  replace H := Option.bind_eq_some_iff.mp H
  obtain ⟨⟨t191005, t191008, t191009⟩, A30, H⟩ := H
  replace H : ((spec_l01Pick.f t191001 t191008 t191009 (([0, 1, 2, (-1), 3, 100, 101, (-100)] : List Int))).bind fun bt191013 => (some (t191005, bt191013.1))) = some (r1, r2) := H
  have A3 := Aside0.mk A30
  clear A30
  obtain ⟨y191010, hy191010⟩ : ∃ y_ : List Int, y_ = (([0, 1, 2, (-1), 3, 100, 101, (-100)] : List Int)) := ⟨_, rfl⟩
  replace H : ((spec_l01Pick.f t191001 t191008 t191009 y191010).bind fun bt191013 => (some (t191005, bt191013.1))) = some (r1, r2) := by first | (rw [hy191010]; with_reducible exact H) | (have H2_ := (Option.bind_some _ _).symm.trans H; rw [hy191010]; with_reducible exact H2_) | (have H2_ := (Option.bind_some _ _).symm.trans H; with_reducible exact H2_) | with_reducible exact H | (rw [hy191010]; exact H) | exact H
  have Ny191010 := Aside0.mk hy191010
  clear hy191010
  replace H := Option.bind_eq_some_iff.mp H
  obtain ⟨⟨t191013, t191014, t191015⟩, A40, H⟩ := H
  replace H : (some (t191005, t191013)) = some (r1, r2) := H
  have A4 := Aside0.mk A40
  clear A40
  simp only [Option.some.injEq, Prod.mk.injEq] at H
  obtain ⟨rfl, rfl⟩ := H
  go_enter Tryz.func19, Tryz.ntmps19
  go_wp2_with (first | ((with_reducible refine gate_callee (f := 55) rfl ?_); refine goesL_ (some 6) rfl rfl Tryz.func55 (by kernel_rfl) rfl #[.slice A0 l0.length c0] rfl (by (try simp only [List.map_toArray, List.map_cons, List.map_nil]); first | done | rfl | (simp only [List.length_drop, List.length_take]; rfl)) ?_; (with_reducible refine (spec_l01From.calls k _ _ l0 t191001 t191002 t191003 w _ ?side1 ?side2 ?side3 A2.out).mono ?_); (case side1 => repeat (first | (with_reducible first | exact HB.out | apply below_alloc | apply pw_below_drewN | apply below_drew1) | exact HB.out)); (case side2 => exact HR0.out); (case side3 => exact HC0.out); rintro e w5 ⟨g191004, rfl, hi, hb, hb2⟩; refine ⟨_, rfl, ?_⟩; have n0_ := Aside0.mk (hb); have n1_ := Aside0.mk (hi); clear HB; have HB := n0_; have HI191004 := n1_; clear n0_ n1_; (try clear hb); (try clear hb2); (try clear hk); (try clear hi)) | ((with_reducible refine gate_callee (f := 54) rfl ?_); refine goesL_ (some 8) rfl rfl Tryz.func54 (by kernel_rfl) rfl #[.pointer (some ⟨g191004, 0, none⟩)] rfl (by (try simp only [List.map_toArray, List.map_cons, List.map_nil]); first | done | rfl | (simp only [List.length_drop, List.length_take]; rfl)) ?_; (with_reducible refine (spec_l01Spoil.calls k g191004 t191001 t191002 t191003 t191005 t191008 t191009 w _ ?side1 ?side2 A3.out).mono ?_); (case side1 => repeat (first | (with_reducible first | exact HI191004.out | apply IsS110.alloc | apply IsS110.drewN | apply IsS110.drew | apply IsS110.set_1 | apply IsS110.set_2) | exact HI191004.out)); (case side2 => repeat (first | (with_reducible first | exact HB.out | apply below_alloc | apply pw_below_drewN | apply below_drew1 | refine below_set ?_ (IsS110.ge HI191004.out)) | exact HB.out)); rintro e w6 ⟨v191006, rfl, ho0, hi, hb, hk⟩; refine ⟨_, rfl, ?_⟩; have n0_ := Aside0.mk (Kd.R_lower ho0 (below_size (by repeat (first | (with_reducible first | exact HB.out | apply below_alloc | apply pw_below_drewN | apply below_drew1 | refine below_set ?_ (IsS110.ge HI191004.out)) | exact HB.out)))); have n1_ := Aside0.mk (hb); have n2_ := Aside0.mk (hi); clear HB; clear HI191004; have HO191007 := n0_; have HB := n1_; have HI191004 := n2_; clear n0_ n1_ n2_; (try clear hb); (try clear hb2); (try clear hk); (try clear hi); (try clear ho0)) | ((with_reducible refine gate_dst (N := 10) rfl ?_); refine Kd.R_lit (Kd.int .i64) _ 2 ?hg (N := 10) ?hd (xs := ([0, 1, 2, (-1), 3, 100, 101, (-100)] : List Int)) (inner := [.int .i64 0, .int .i64 1, .int .i64 2, .int .i64 (-1), .int .i64 3, .int .i64 100, .int .i64 101, .int .i64 (-100)]) (ok := fun _ => True) (okp := fun _ => True) ?hr ?hp (fun _ hk => hk) trivial (Below.refl _ _) (Nat.le_refl _) (by simp) ?_; (case hd => rfl); (case hg => rfl); (case hr => first | (go_simp; done) | (go_simp; rfl)); (case hp => exact (Reps.one (show Kd.M (Kd.int .i64) _ _ _ 0 [.int .i64 0] from rfl) (Reps.one (show Kd.M (Kd.int .i64) _ _ _ 1 [.int .i64 1] from rfl) (Reps.one (show Kd.M (Kd.int .i64) _ _ _ 2 [.int .i64 2] from rfl) (Reps.one (show Kd.M (Kd.int .i64) _ _ _ (-1) [.int .i64 (-1)] from rfl) (Reps.one (show Kd.M (Kd.int .i64) _ _ _ 3 [.int .i64 3] from rfl) (Reps.one (show Kd.M (Kd.int .i64) _ _ _ 100 [.int .i64 100] from rfl) (Reps.one (show Kd.M (Kd.int .i64) _ _ _ 101 [.int .i64 101] from rfl) (Reps.one (show Kd.M (Kd.int .i64) _ _ _ (-100) [.int .i64 (-100)] from rfl) (Reps.none _ _)))))))))); intro v191011 w7 ho8 hb hg_ hnew_; clear hg_ hnew_; (first | rw [← Ny191010.out] at ho8 | (simp only [Int.reduceToNat] at ho8; rw [← Ny191010.out] at ho8)); have n0_ := Aside0.mk (Kd.R_elder' (by (with_reducible repeat (first | apply Kd.R_alloc | apply Kd.R_drewN | apply Kd.R_drew)); exact HO191007.out) (Kd.R_base ho8) hb); have n1_ := Aside0.mk (Kd.R_lower (Kd.R_new' ho8 (Kd.R_lt (by (with_reducible repeat (first | apply Kd.R_alloc | apply Kd.R_drewN | apply Kd.R_drew)); exact HO191007.out))) (below_size (by repeat (first | (with_reducible first | exact HB.out | apply below_alloc | apply pw_below_drewN | apply below_drew1 | refine below_set ?_ (IsS110.ge HI191004.out)) | exact HB.out)))); have n2_ := Aside0.mk (IsS110.below (by repeat (first | (with_reducible first | exact HI191004.out | apply IsS110.alloc | apply IsS110.drewN | apply IsS110.drew | apply IsS110.set_1 | apply IsS110.set_2) | exact HI191004.out)) hb); have n3_ := Aside0.mk (below_step (by repeat (first | (with_reducible first | exact HB.out | apply below_alloc | apply pw_below_drewN | apply below_drew1 | refine below_set ?_ (IsS110.ge HI191004.out)) | exact HB.out)) hb); clear HO191007; clear HI191004; clear HB; have HO191007 := n0_; have HO191012 := n1_; have HI191004 := n2_; have HB := n3_; clear n0_ n1_ n2_ n3_; clear hb ho8; obtain ⟨Ao9, co9, eo9⟩ := Kd.R_slice HO191012.out; subst eo9) | ((with_reducible refine gate_callee (f := 60) rfl ?_); refine goesL_ (some 11) rfl rfl Tryz.func60 (by kernel_rfl) rfl #[.pointer (some ⟨g191004, 0, none⟩), .slice Ao9 y191010.length co9] rfl (by (try simp only [List.map_toArray, List.map_cons, List.map_nil]); first | done | rfl | (simp only [List.length_drop, List.length_take]; rfl)) ?_; (with_reducible refine (spec_l01Pick.calls g191004 t191001 t191008 t191009 _ _ y191010 t191013 t191014 t191015 w _ ?side1 ?side2 ?side3 ?side4 ?side5 A4.out).mono ?_); (case side1 => repeat (first | (with_reducible first | exact HI191004.out | apply IsS110.alloc | apply IsS110.drewN | apply IsS110.drew | apply IsS110.set_1 | apply IsS110.set_2) | exact HI191004.out)); (case side2 => repeat (first | (with_reducible first | exact HB.out | apply below_alloc | apply pw_below_drewN | apply below_drew1 | refine below_set ?_ (IsS110.ge HI191004.out)) | exact HB.out)); (case side3 => repeat (first | exact (Kd.R_reads' HO191012.out).2.2 | (with_reducible refine Kd.C_alloc ?_ _) | (with_reducible refine Kd.C_drewN ?_ _) | (with_reducible refine Kd.C_drew ?_))); (case side4 => exact (Kd.R_reads' HO191012.out).2.1); (case side5 => exact far_slice (IsS110.own_ne HI191004.out HO191012.out (by decide))); rintro e w10 ⟨rfl, hi, hb, hk⟩; refine ⟨_, rfl, ?_⟩; have n0_ := Aside0.mk (Kd.R_mono (Kd.R_keep (IsS110.apart (show IsS110 w _ g191004 t191001 t191008 t191009 from by repeat (first | (with_reducible first | exact HI191004.out | apply IsS110.alloc | apply IsS110.drewN | apply IsS110.drew | apply IsS110.set_1 | apply IsS110.set_2) | exact HI191004.out)) (by (with_reducible repeat (first | apply Kd.R_alloc | apply Kd.R_drewN | apply Kd.R_drew)); exact HO191007.out) (by decide)) hk (fun _ h => h.2)) (fun _ h => h.1)); have n1_ := Aside0.mk (Kd.R_mono (Kd.R_keep (IsS110.apart (show IsS110 w _ g191004 t191001 t191008 t191009 from by repeat (first | (with_reducible first | exact HI191004.out | apply IsS110.alloc | apply IsS110.drewN | apply IsS110.drew | apply IsS110.set_1 | apply IsS110.set_2) | exact HI191004.out)) (by (with_reducible repeat (first | apply Kd.R_alloc | apply Kd.R_drewN | apply Kd.R_drew)); exact HO191012.out) (by decide)) hk (fun _ h => h.2)) (fun _ h => h.1)); have n2_ := Aside0.mk (hb); have n3_ := Aside0.mk (hi); clear HO191007; clear HO191012; clear HB; clear HI191004; have HO191007 := n0_; have HO191012 := n1_; have HB := n2_; have HI191004 := n3_; clear n0_ n1_ n2_ n3_; (try clear hb); (try clear hb2); (try clear hk); (try clear hi)))
  go_ret2
  exact ⟨_, by first | rfl | (simp [errW_none, errW_some] <;> rfl) | (simp [*, errW_none, errW_some] <;> rfl), by (with_reducible repeat (first | apply Kd.R_alloc | apply Kd.R_drewN | apply Kd.R_drew)); exact Kd.R_mono HO191007.out (fun _ hk => trivial), by repeat (first | (with_reducible first | exact HB.out | apply below_alloc | apply pw_below_drewN | apply below_drew1 | refine below_set ?_ (IsS110.ge HI191004.out)) | exact HB.out)⟩
end Go.Proofs.YtcnekpdoldljgaaGreat.F
end
section
namespace Go.Proofs.YtcnekpdoldljgaaGreat.F
open Go.RowKit Go.Proofs.YtcnekpdoldljgaaGreatW.PrintWords Go.Proofs.YtcnekpdoldljgaaGreatW.PrintLast Go.Proofs.YtcnekpdoldljgaaGreatW.PrintMore
attribute [local go_sem] max2_int min2_int max_two min_two max_three min_three max_four min_four   
set_option linter.unusedVariables false
set_option linter.unusedSimpArgs false
open Go.Proofs.YtcnekpdoldljgaaGreat.Mem Go.Shelf
attribute [local go_sem] Oper.semAt_some
def backTo (zs : List Int) : Nat → List (Nat × Int)
  | 0 => []
  | d + 1 => backTo zs d ++ [(zs.length - 1 - d, zs.getD (zs.length - 1 - d) 0)]
theorem backTo_len (zs : List Int) : ∀ d, (backTo zs d).length = d
  | 0 => rfl
  | d + 1 => by rw [backTo, List.length_append, backTo_len zs d]; rfl
def valS (x : Int) (pre : List (Nat × Int)) : Int := pre.foldl (fun s p => wrap64 (wrap64 (s * x) + p.2)) 0
theorem valS_snoc (x : Int) (pre : List (Nat × Int)) (p : Nat × Int) : valS x (pre ++ [p]) = wrap64 (wrap64 (valS x pre * x) + p.2) := by simp [valS]
def Kept_ (n₀ Bs : Nat) (W W' : World) : Prop := Below n₀ W W' ∧ W'.heap[Bs]? = W.heap[Bs]?
theorem keptB {n₀ Bs : Nat} {w : World} (hn : n₀ ≤ w.heap.size) (hB : Bs < w.heap.size) (W : World) (l : Nat) (o o' : Obj) (hl : w.heap.size ≤ l) (h : W.heap[l]? = some o) (h1 : o.isCells = false) (h2 : o.isWalk = false) : Kept_ n₀ Bs W (W.putObj l o') :=
  ⟨belowK_b hn W l o o' hl h h1 h2, World.putObj_heap_other (by omega)⟩
set_option maxRecDepth 100000 in
set_option maxHeartbeats 4000000 in
theorem back1_in (F : Fence) (n : Nat) (hF : F.fn 167) (hro : F.round = none) (hn : 1 ≤ n) (l Bs : Nat) (w : World) (A : Option Addr) (len cap : Nat) (zs : List Int) (hlen : len = zs.length) (hreach : len ≤ 17592186044416) (hC : Kd.C (Kd.int .i64) w A len zs) (J Jx : List (Nat × Int) → World → Prop)
    (hY : ∀ pre x W, J pre W → pre.length < len → YieldAt F (n - 1) Tryz.prog l #[.int .i64 ((x.1 : Nat) : Int), .int .i64 x.2] W fun e W' =>
      (e = .returned (.bool true) ∧ J (pre ++ [x]) W' ∧ Kept_ w.heap.size Bs W W') ∨ (e = .returned (.bool false) ∧ Jx (pre ++ [x]) W'))
    (W : World) (hW : Below w.heap.size w W) (hBs : Boxed W Bs 37 (.slice A len cap)) (h0 : J [] W) :
    CallsIn F n Tryz.prog 167 #[.func (.yield l) #[] #[], .pointer (some ⟨Bs, 0, none⟩)] W fun e W' => (∃ v, e = .returned v) ∧
      ((∃ ys, ys = backTo zs len ∧ J ys W') ∨ (∃ pre, True ∧ Jx pre W')) := by
  have HC := Aside0.mk hC
  have HLEN := Aside0.mk hlen
  have hb := hBs.cell
  have HBX := Aside0.mk hBs
  have HW := Aside0.mk hW
  have HY := Aside0.mk hY
  have e0 : wrap64 ((len : Int) - 1) = (len : Int) - 1 := by unfold wrap64; omega
  clear hC hlen hBs hW hY
  refine callsIn_of_wp Tryz.func167 rfl hF ?_ hro
  simp only [Tryz.ntmps167, List.size_toArray, List.length_cons, List.length_nil, Nat.reduceAdd, Nat.reduceSub, Array.replicate_succ, Array.replicate_zero, List.push_toArray, List.append_toArray, List.nil_append, List.cons_append]
  gi_wp2
  gi_loopw [3] (fun i wr => ∃ d k : Nat, d + k = len ∧ i = .int .i64 ((k : Int) - 1) ∧ J (backTo zs d) wr ∧ Aside0 (Kept_ w.heap.size Bs W wr))
    (fun i _ => (intOf i + 1).toNat)
  case atStart => exact ⟨0, len, by omega, by simp [e0], h0, ⟨⟨Below.refl _ _, rfl⟩⟩⟩
  case round =>
    obtain ⟨d, k, hk, rfl, hJs, HK⟩ := hrel
    have hb2 : wr.cell? ⟨Bs, 0, none⟩ = some (.slice A len cap) := (show Boxed wr Bs _ _ from HK.out.2.trans HBX.out).cell
    cases k with
    | zero =>
      have e : (((0 : Nat) : Int) - 1) = -1 := rfl
      rw [e]
      obtain rfl : d = len := by omega
      gi_wp2
      go_end0
      exact ⟨⟨_, rfl⟩, .inl ⟨_, rfl, hJs⟩⟩
    | succ k' =>
      have e : (((k' + 1 : Nat) : Int) - 1) = (k' : Int) := by omega
      rw [e]
      obtain ⟨ad, rfl, hc⟩ := cell_of_C (Kd.C_below HC.out (HW.out.trans HK.out.1)) k' (by omega)
      have e1 : wrap64 ((k' : Int) - 1) = (k' : Int) - 1 := by unfold wrap64; omega
      have hcm : backTo zs (d + 1) = backTo zs d ++ [(k', zs[k']?.getD 0)] := by
        rw [backTo, show zs.length - 1 - d = k' from by have := HLEN.out; omega, List.getD_eq_getElem?_getD]
      have HCM := Aside0.mk hcm
      clear hcm
      obtain ⟨fn, tmps, assign, body, hy, hR⟩ := HY.out _ (k', zs[k']?.getD 0) wr hJs (by rw [backTo_len]; omega)
      dsimp only at hy
      gi_wp2
      refine hR.mono ?_
      rintro e W3 (⟨rfl, hJ3, hk3⟩ | ⟨rfl, hJx3⟩)
      · gi_wp2
        go_roundw
        case rel => exact ⟨d + 1, k', by omega, (by first | rfl | simp [e1]), by rw [HCM.out]; exact hJ3, ⟨⟨HK.out.1.trans hk3.1, hk3.2.trans HK.out.2⟩⟩⟩
        case measure => simp [intOf]
      · gi_wp2
        refine bodyPost_ret (results_none rfl _ _ _) rfl ?_
        exact ⟨⟨_, rfl⟩, .inr ⟨_, trivial, hJx3⟩⟩
set_option maxHeartbeats 2000000 in
theorem back_in (F : Fence) (n : Nat) (hF : F.fn 127) (hro : F.round = none) (a : Option Addr) (len cap : Nat) (w : World) :
    CallsIn F n Tryz.prog 127 #[.slice a len cap] w fun e w' => e = .returned (.func (.func 167) #[] #[.pointer (some ⟨w.heap.size, 0, none⟩)]) ∧ w' = w.alloc (.cells #[.slice a len cap] 37) := by
  refine callsIn_of_wp Tryz.func127 rfl hF ?_ hro
  simp only [Tryz.ntmps127, List.size_toArray, List.length_cons, List.length_nil, Nat.reduceAdd, Nat.reduceSub, Array.replicate_succ, Array.replicate_zero, List.push_toArray, List.append_toArray, List.nil_append, List.cons_append]
  gi_wp2
  go_ret
  exact ⟨rfl, rfl⟩
def impl_valueAt.f (l0 : List Int) (a1 : Int) : Option Int := if l0.length ≤ 17592186044416 then some (valS a1 (backTo l0 l0.length)) else none
set_option maxHeartbeats 4000000 in
set_option maxRecDepth 100000 in
theorem impl_valueAt.calls (A0 : Option Addr) (c0 : Nat) (l0 : List Int) (a1 : Int) (r : Int) (w : World) (hr0 : Kd.C (Kd.int .i64) w A0 l0.length l0) (hc0 : l0.length ≤ c0) (h : impl_valueAt.f l0 a1 = some r) :
    Calls Tryz.prog 63 #[.slice A0 l0.length c0, .int .i64 a1] w fun e w' => e = .returned (.int .i64 r) ∧ Below w.heap.size w w' := by
  unfold impl_valueAt.f at h
  by_cases hk : l0.length ≤ 17592186044416
  rotate_left
  · rw [if_neg hk] at h; exact absurd h (by simp)
  rw [if_pos hk] at h
  have hr : r = valS a1 (backTo l0 l0.length) := (Option.some.inj h).symm
  subst hr
  refine (callsIn_wide (n := 3)).1 ?_
  refine callsIn_of_wp_marks Tryz.func63 rfl trivial ?_ rfl
  simp only [Tryz.ntmps63, List.size_toArray, List.length_cons, List.length_nil, Nat.reduceAdd, Nat.reduceSub, Array.replicate_succ, Array.replicate_zero, List.push_toArray, List.append_toArray, List.nil_append, List.cons_append]
  gi_wp2_with (first
    | (refine ⟨trivial, ?_⟩; gi_at_call 127; refine (back_in Fence.wide 2 trivial rfl _ _ _ _).mono ?_; rintro e w' ⟨rfl, rfl⟩)
    | (gi_at_call 127; refine (back_in Fence.wide 2 trivial rfl _ _ _ _).mono ?_; rintro e w' ⟨rfl, rfl⟩))
  have bX := ((Boxed.new w 2 (.int .i64 a1)).alloc (.cells #[.int .i64 0] 2)).alloc (.cells #[.slice A0 l0.length c0] 37)
  have bO := (Boxed.new (w.alloc (.cells #[.int .i64 a1] 2)) 2 (.int .i64 0)).alloc (.cells #[.slice A0 l0.length c0] 37)
  have bS := Boxed.new ((w.alloc (.cells #[.int .i64 a1] 2)).alloc (.cells #[.int .i64 0] 2)) 37 (.slice A0 l0.length c0)
  have hB0 : Below w.heap.size w (((w.alloc (.cells #[.int .i64 a1] 2)).alloc (.cells #[.int .i64 0] 2)).alloc (.cells #[.slice A0 l0.length c0] 37)) := below_alloc (below_alloc (below_alloc (Below.refl _ _) _) _) _
  rw [World.size_alloc] at bO bS
  rw [World.size_alloc] at bS
  have hsz : (((w.alloc (.cells #[.int .i64 a1] 2)).alloc (.cells #[.int .i64 0] 2)).alloc (.cells #[.slice A0 l0.length c0] 37)).heap.size = w.heap.size + 1 + 1 + 1 := by simp
  generalize hW1 : (((w.alloc (.cells #[.int .i64 a1] 2)).alloc (.cells #[.int .i64 0] 2)).alloc (.cells #[.slice A0 l0.length c0] 37)) = W1 at bX bO bS hB0 hsz ⊢
  have stops : SeqStopsK Fence.wide (3 - 1) Tryz.prog 167 #[.pointer (some ⟨w.heap.size + 1 + 1, 0, none⟩)] (fun x : Nat × Int => #[Value.int .i64 ((x.1 : Nat) : Int), Value.int .i64 x.2]) (Kept_ w.heap.size (w.heap.size + 1 + 1)) (fun ys => ys = backTo l0 l0.length) (fun _ => True) l0.length W1 := fun l J Jx W hW _ _ hY h0 =>
    back1_in Fence.wide 2 trivial rfl (by omega) l _ w A0 _ c0 l0 rfl hk hr0 J Jx hY W (hB0.trans (hW.mono (by omega))) ((hW.block _ bS.lt).trans bS) h0
  have ne_of : ∀ {A : World} {B : Nat} {t : TypeId} {v : Value} {row : Option Nat}, Boxed A B t v → (∀ r, row = some r → ∃ o : Obj, A.heap[r]? = some o ∧ o.isCells = false) → some B ≠ row := fun {A B t v row} hb hr e => by
    obtain ⟨o, ho, hc⟩ := hr _ e.symm
    rw [show A.heap[B]? = _ from hb] at ho
    cases ho; cases hc
  refine wpIn_rangeFunc_ownG rfl (by omega) (gf := 167) (lb := #[.pointer (some ⟨w.heap.size + 1 + 1, 0, none⟩)]) rfl trivial (enters_of Tryz.func167 (by kernel_rfl) rfl)
    stops (fun h k => ⟨h.1.trans k.1, k.2.trans h.2⟩) (keptB (by omega) bS.lt) (Below.refl _ _) (fun _ => rfl)
    (fun pre W => (Boxed W (w.heap.size + 1) 2 (.int .i64 (valS a1 pre)) ∧ Boxed W w.heap.size 2 (.int .i64 a1) ∧ Boxed W (w.heap.size + 1 + 1) 37 (.slice A0 l0.length c0)) ∧ Below w.heap.size w W)
    (fun _ _ _ => False)
    (OwnFrom.and (Own.from (fun s A B row hs hg hr => ⟨hs.1.kept hg (ne_of hs.1 hr), hs.2.1.kept hg (ne_of hs.2.1 hr), hs.2.2.kept hg (ne_of hs.2.2 hr)⟩) _) (ownFrom_below (Nat.le_refl _) (by omega)))
    (fun _ _ _ _ _ hs _ _ => hs)
    ⟨⟨bO, bX, bS⟩, hB0⟩
    (fun x => { tmps := #[.slice A0 l0.length c0, .int .i64 a1, undef, .pointer (some ⟨w.heap.size, 0, none⟩), .int .i64 0, .pointer (some ⟨w.heap.size + 1, 0, none⟩), undef, .int .i64 x.2, .slice A0 l0.length c0, .func (.func 167) #[] #[.pointer (some ⟨w.heap.size + 1 + 1, 0, none⟩)], .int .i64 ((x.1 : Nat) : Int), .int .i64 x.2, undef, undef, undef, undef, undef, undef], defers := [] }) ?assign ?body ?done ?stop
  case assign =>
    intro l x W K hK
    gi_wp2
    exact hK
  case body =>
    rintro l pre x W ⟨⟨hO, hX, hS⟩, hB⟩ _
    have hc := hO.cell
    have hf := hO.frozen
    have hcx := hX.cell
    have HO := Aside0.mk hO
    have HX := Aside0.mk hX
    have HS := Aside0.mk hS
    have HB := Aside0.mk hB
    clear hO hX hS hB
    gi_wp2
    have hg : W.grownBy (W.setCell ⟨w.heap.size + 1, 0, none⟩ (.int .i64 (wrap64 (wrap64 (valS a1 pre * a1) + x.2)))) (some (w.heap.size + 1)) := grown_set (grown_refl W _) 0 _
    exact ⟨(KeepsOthers.setCell _ _ _).from _, ⟨(Below.refl w.heap.size W).setCell (p := ⟨w.heap.size + 1, 0, none⟩) (Nat.le_succ _) _, hg.block _ HS.out.lt (by simp)⟩, ⟨by rw [valS_snoc]; exact HO.out.set _, HX.out.kept hg (by simp), HS.out.kept hg (by simp)⟩, HB.out.setCell (p := ⟨w.heap.size + 1, 0, none⟩) (Nat.le_succ _) _⟩
  case done =>
    rintro D ys W hD rfl ⟨⟨hO, _, _⟩, hB⟩ hK
    have hc := hO.cell
    have HB := Aside0.mk hB
    clear hO hB
    gi_wp2
    refine ⟨by simp, .inl ⟨_, _, rfl, run_takeDeferred hK, ?_⟩⟩
    exact ⟨_, results_tmp rfl _ _ _, rfl, HB.out.trans (belowK_b (w := w) (Nat.le_refl _) W D _ _ (by omega) hK rfl rfl)⟩
  case stop =>
    rintro D c pre W _ _ h _
    exact h.elim
end Go.Proofs.YtcnekpdoldljgaaGreat.F
end
section
namespace Go.Proofs.YtcnekpdoldljgaaGreat.F
open Go.RowKit Go.Proofs.YtcnekpdoldljgaaGreatW.PrintWords Go.Proofs.YtcnekpdoldljgaaGreatW.PrintLast Go.Proofs.YtcnekpdoldljgaaGreatW.PrintMore
attribute [local go_sem] max2_int min2_int max_two min_two max_three min_three max_four min_four   
set_option linter.unusedVariables false
set_option linter.unusedSimpArgs false
def impl_ValueOfInterlace.f (k : Nat) (l0 : List Int) (a1 : Int) : Option (Int × Int) := (impl_IsWord.f k l0).bind fun t201001 => (if t201001 = true then ((impl_in.f a1 (-100) 100).bind fun t201002 => (if t201002 = true then ((impl_interlace.f l0).bind fun t201003 => ((impl_valueAt.f t201003 a1).bind fun t201006 => (some (t201006, 0)))) else (some (0, 2)))) else (some (0, 1)))
theorem impl_ValueOfInterlace.mono : ∀ a0 a1 k, LeO (impl_ValueOfInterlace.f k a0 a1) (impl_ValueOfInterlace.f (k + 1) a0 a1) := by
  intro a0 a1 k
  unfold impl_ValueOfInterlace.f
  repeat' first
      | (with_reducible exact impl_IsWord.mono _ _)
      | (with_reducible exact LeO.refl _)
      | (with_reducible exact LeO.none _)
      | (with_reducible refine LeO.ite ?_ ?_)
      | (with_reducible refine LeO.bind ?_ (fun _ => ?_))
      | exact impl_IsWord.mono _ _
      | exact LeO.none _
      | refine LeO.ite ?_ ?_
      | refine LeO.bind ?_ (fun _ => ?_)
set_option maxHeartbeats 8000000 in
set_option maxRecDepth 100000 in
theorem impl_ValueOfInterlace.calls (k : Nat) (A0 : Option Addr) (c0 : Nat) (l0 : List Int) (a1 : Int) (r1 : Int) (r2 : Int) (w : World) (hr0 : Kd.C (Kd.int .i64) w A0 l0.length l0) (hc0 : l0.length ≤ c0) (h : impl_ValueOfInterlace.f k l0 a1 = some (r1, r2)) :
    Calls Tryz.prog 20 #[.slice A0 l0.length c0, .int .i64 a1] w fun e w' => e = .returned (.tuple #[.int .i64 r1, .int .i64 r2]) ∧ Below w.heap.size w w' := by
  have HR0 := Aside0.mk hr0
  have HC0 := Aside0.mk hc0
  clear hr0 hc0
  have HB := Aside0.mk (Below.refl w.heap.size w)
  have H : ((impl_IsWord.f k l0).bind fun t201001 => (if t201001 = true then ((impl_in.f a1 (-100) 100).bind fun t201002 => (if t201002 = true then ((impl_interlace.f l0).bind fun t201003 => ((impl_valueAt.f t201003 a1).bind fun t201006 => (some (t201006, 0)))) else (some (0, 2)))) else (some (0, 1)))) = some (r1, r2) := h
  clear h
  replace H := Option.bind_eq_some_iff.mp H
  obtain ⟨t201001, A30, H⟩ := H
  replace H : (if t201001 = true then ((impl_in.f a1 (-100) 100).bind fun t201002 => (if t201002 = true then ((impl_interlace.f l0).bind fun t201003 => ((impl_valueAt.f t201003 a1).bind fun t201006 => (some (t201006, 0)))) else (some (0, 2)))) else (some (0, 1))) = some (r1, r2) := H
  have A3 := Aside0.mk A30
  clear A30
  by_cases c4 : t201001 = true
  rotate_left
  · replace c4 := Bool.eq_false_iff.mpr c4
    subst c4
    have H1 : (some (0, 1)) = some (r1, r2) := by rw [if_neg (show ¬ (false = true) by decide)] at H; exact H
    clear H
    have H := H1
    clear H1
    simp only [Option.some.injEq, Prod.mk.injEq] at H
    obtain ⟨rfl, rfl⟩ := H
    go_enter Tryz.func20, Tryz.ntmps20
    go_wp2_with (first | ((with_reducible refine gate_callee (f := 61) rfl ?_); refine goesL_ (some 8) rfl rfl Tryz.func61 (by kernel_rfl) rfl #[.slice A0 l0.length c0] rfl (by (try simp only [List.map_toArray, List.map_cons, List.map_nil]); first | done | rfl | (simp only [List.length_drop, List.length_take]; rfl)) ?_; (with_reducible refine (impl_IsWord.calls k _ _ l0 false _ ?side1 ?side2 A3.out).mono ?_); (case side1 => repeat (first | exact HR0.out | (with_reducible refine Kd.C_alloc ?_ _) | (with_reducible refine Kd.C_drewN ?_ _) | (with_reducible refine Kd.C_drew ?_))); (case side2 => exact HC0.out); rintro e w14 ⟨rfl, hb⟩; refine ⟨_, rfl, ?_⟩; have n0_ := Aside0.mk (below_step (by repeat (first | (with_reducible first | exact HB.out | apply below_alloc | apply pw_below_drewN | apply below_drew1) | exact HB.out)) hb); clear HB; have HB := n0_; clear n0_; (try clear hb); (try clear hb2); (try clear hk); (try clear hi)))
    go_ret2
    exact ⟨by first | rfl | (simp [errW_none, errW_some] <;> rfl) | (simp [*, errW_none, errW_some] <;> rfl), by repeat (first | (with_reducible first | exact HB.out | apply below_alloc | apply pw_below_drewN | apply below_drew1) | exact HB.out)⟩
  subst c4
  have H1 : ((impl_in.f a1 (-100) 100).bind fun t201002 => (if t201002 = true then ((impl_interlace.f l0).bind fun t201003 => ((impl_valueAt.f t201003 a1).bind fun t201006 => (some (t201006, 0)))) else (some (0, 2)))) = some (r1, r2) := by rw [if_pos rfl] at H; exact H
  clear H
  have H := H1
  clear H1
  replace H := Option.bind_eq_some_iff.mp H
  obtain ⟨t201002, A50, H⟩ := H
  replace H : (if t201002 = true then ((impl_interlace.f l0).bind fun t201003 => ((impl_valueAt.f t201003 a1).bind fun t201006 => (some (t201006, 0)))) else (some (0, 2))) = some (r1, r2) := H
  have A5 := Aside0.mk A50
  clear A50
  by_cases c6 : t201002 = true
  rotate_left
  · replace c6 := Bool.eq_false_iff.mpr c6
    subst c6
    have H1 : (some (0, 2)) = some (r1, r2) := by rw [if_neg (show ¬ (false = true) by decide)] at H; exact H
    clear H
    have H := H1
    clear H1
    simp only [Option.some.injEq, Prod.mk.injEq] at H
    obtain ⟨rfl, rfl⟩ := H
    go_enter Tryz.func20, Tryz.ntmps20
    go_wp2_with (first | ((with_reducible refine gate_callee (f := 61) rfl ?_); refine goesL_ (some 8) rfl rfl Tryz.func61 (by kernel_rfl) rfl #[.slice A0 l0.length c0] rfl (by (try simp only [List.map_toArray, List.map_cons, List.map_nil]); first | done | rfl | (simp only [List.length_drop, List.length_take]; rfl)) ?_; (with_reducible refine (impl_IsWord.calls k _ _ l0 true _ ?side1 ?side2 A3.out).mono ?_); (case side1 => repeat (first | exact HR0.out | (with_reducible refine Kd.C_alloc ?_ _) | (with_reducible refine Kd.C_drewN ?_ _) | (with_reducible refine Kd.C_drew ?_))); (case side2 => exact HC0.out); rintro e w13 ⟨rfl, hb⟩; refine ⟨_, rfl, ?_⟩; have n0_ := Aside0.mk (below_step (by repeat (first | (with_reducible first | exact HB.out | apply below_alloc | apply pw_below_drewN | apply below_drew1) | exact HB.out)) hb); clear HB; have HB := n0_; clear n0_; (try clear hb); (try clear hb2); (try clear hk); (try clear hi)) | ((with_reducible refine gate_callee (f := 62) rfl ?_); refine goesL_ (some 12) rfl rfl Tryz.func62 (by kernel_rfl) rfl #[.int .i64 a1, .int .i64 (-100), .int .i64 100] rfl (by (try simp only [List.map_toArray, List.map_cons, List.map_nil]); first | done | rfl | (simp only [List.length_drop, List.length_take]; rfl)) ?_; (with_reducible refine (impl_in.calls a1 (-100) 100 false _ A5.out).mono ?_); rintro e w' ⟨rfl, ⟨nd, rfl⟩⟩; refine ⟨_, rfl, ?_⟩))
    go_ret2
    exact ⟨by first | rfl | (simp [errW_none, errW_some] <;> rfl) | (simp [*, errW_none, errW_some] <;> rfl), by repeat (first | (with_reducible first | exact HB.out | apply below_alloc | apply pw_below_drewN | apply below_drew1) | exact HB.out)⟩
  subst c6
  have H1 : ((impl_interlace.f l0).bind fun t201003 => ((impl_valueAt.f t201003 a1).bind fun t201006 => (some (t201006, 0)))) = some (r1, r2) := by rw [if_pos rfl] at H; exact H
  clear H
  have H := H1
  clear H1
  replace H := Option.bind_eq_some_iff.mp H
  obtain ⟨t201003, A70, H⟩ := H
  replace H : ((impl_valueAt.f t201003 a1).bind fun t201006 => (some (t201006, 0))) = some (r1, r2) := H
  have A7 := Aside0.mk A70
  clear A70
  replace H := Option.bind_eq_some_iff.mp H
  obtain ⟨t201006, A80, H⟩ := H
  replace H : (some (t201006, 0)) = some (r1, r2) := H
  have A8 := Aside0.mk A80
  clear A80
  simp only [Option.some.injEq, Prod.mk.injEq] at H
  obtain ⟨rfl, rfl⟩ := H
  go_enter Tryz.func20, Tryz.ntmps20
  go_wp2_with (first | ((with_reducible refine gate_callee (f := 61) rfl ?_); refine goesL_ (some 8) rfl rfl Tryz.func61 (by kernel_rfl) rfl #[.slice A0 l0.length c0] rfl (by (try simp only [List.map_toArray, List.map_cons, List.map_nil]); first | done | rfl | (simp only [List.length_drop, List.length_take]; rfl)) ?_; (with_reducible refine (impl_IsWord.calls k _ _ l0 true _ ?side1 ?side2 A3.out).mono ?_); (case side1 => repeat (first | exact HR0.out | (with_reducible refine Kd.C_alloc ?_ _) | (with_reducible refine Kd.C_drewN ?_ _) | (with_reducible refine Kd.C_drew ?_))); (case side2 => exact HC0.out); rintro e w9 ⟨rfl, hb⟩; refine ⟨_, rfl, ?_⟩; have n0_ := Aside0.mk (below_step (by repeat (first | (with_reducible first | exact HB.out | apply below_alloc | apply pw_below_drewN | apply below_drew1) | exact HB.out)) hb); clear HB; have HB := n0_; clear n0_; (try clear hb); (try clear hb2); (try clear hk); (try clear hi)) | ((with_reducible refine gate_callee (f := 62) rfl ?_); refine goesL_ (some 12) rfl rfl Tryz.func62 (by kernel_rfl) rfl #[.int .i64 a1, .int .i64 (-100), .int .i64 100] rfl (by (try simp only [List.map_toArray, List.map_cons, List.map_nil]); first | done | rfl | (simp only [List.length_drop, List.length_take]; rfl)) ?_; (with_reducible refine (impl_in.calls a1 (-100) 100 true _ A5.out).mono ?_); rintro e w' ⟨rfl, ⟨nd, rfl⟩⟩; refine ⟨_, rfl, ?_⟩) | ((with_reducible refine gate_callee (f := 57) rfl ?_); refine goesL_ (some 15) rfl rfl Tryz.func57 (by kernel_rfl) rfl #[.slice A0 l0.length c0] rfl (by (try simp only [List.map_toArray, List.map_cons, List.map_nil]); first | done | rfl | (simp only [List.length_drop, List.length_take]; rfl)) ?_; (with_reducible refine (impl_interlace.calls _ _ l0 t201003 _ ?side1 ?side2 A7.out).mono ?_); (case side1 => repeat (first | exact (Kd.C_below HR0.out (by repeat (first | (with_reducible first | exact HB.out | apply below_alloc | apply pw_below_drewN | apply below_drew1) | exact HB.out))) | (with_reducible refine Kd.C_alloc ?_ _) | (with_reducible refine Kd.C_drewN ?_ _) | (with_reducible refine Kd.C_drew ?_))); (case side2 => exact HC0.out); rintro e w10 ⟨v201004, rfl, ho0, hb⟩; refine ⟨_, rfl, ?_⟩; have n0_ := Aside0.mk (Kd.R_lower ho0 (below_size (by repeat (first | (with_reducible first | exact HB.out | apply below_alloc | apply pw_below_drewN | apply below_drew1) | exact HB.out)))); have n1_ := Aside0.mk (below_step (by repeat (first | (with_reducible first | exact HB.out | apply below_alloc | apply pw_below_drewN | apply below_drew1) | exact HB.out)) hb); clear HB; have HO201005 := n0_; have HB := n1_; clear n0_ n1_; (try clear hb); (try clear hb2); (try clear hk); (try clear hi); (try clear ho0); obtain ⟨Ao11, co11, eo11⟩ := Kd.R_slice HO201005.out; subst eo11) | ((with_reducible refine gate_callee (f := 63) rfl ?_); refine goesL_ (some 17) rfl rfl Tryz.func63 (by kernel_rfl) rfl #[.slice Ao11 t201003.length co11, .int .i64 a1] rfl (by (try simp only [List.map_toArray, List.map_cons, List.map_nil]); first | done | rfl | (simp only [List.length_drop, List.length_take]; rfl)) ?_; (with_reducible refine (impl_valueAt.calls _ _ t201003 a1 t201006 _ ?side1 ?side2 A8.out).mono ?_); (case side1 => repeat (first | exact (Kd.R_reads' HO201005.out).2.2 | (with_reducible refine Kd.C_alloc ?_ _) | (with_reducible refine Kd.C_drewN ?_ _) | (with_reducible refine Kd.C_drew ?_))); (case side2 => exact (Kd.R_reads' HO201005.out).2.1); rintro e w12 ⟨rfl, hb⟩; refine ⟨_, rfl, ?_⟩; have n0_ := Aside0.mk (Kd.R_below (by (with_reducible repeat (first | apply Kd.R_alloc | apply Kd.R_drewN | apply Kd.R_drew)); exact HO201005.out) hb); have n1_ := Aside0.mk (below_step (by repeat (first | (with_reducible first | exact HB.out | apply below_alloc | apply pw_below_drewN | apply below_drew1) | exact HB.out)) hb); clear HO201005; clear HB; have HO201005 := n0_; have HB := n1_; clear n0_ n1_; (try clear hb); (try clear hb2); (try clear hk); (try clear hi)))
  go_ret2
  exact ⟨by first | rfl | (simp [errW_none, errW_some] <;> rfl) | (simp [*, errW_none, errW_some] <;> rfl), by repeat (first | (with_reducible first | exact HB.out | apply below_alloc | apply pw_below_drewN | apply below_drew1) | exact HB.out)⟩
end Go.Proofs.YtcnekpdoldljgaaGreat.F
end
section
namespace Go.Proofs.YtcnekpdoldljgaaGreat.F
open Go.RowKit Go.Proofs.YtcnekpdoldljgaaGreatW.PrintWords Go.Proofs.YtcnekpdoldljgaaGreatW.PrintLast Go.Proofs.YtcnekpdoldljgaaGreatW.PrintMore
attribute [local go_sem] max2_int min2_int max_two min_two max_three min_three max_four min_four   
set_option linter.unusedVariables false
set_option linter.unusedSimpArgs false
def spec_l10Value.l0 : Nat → List Int → Int → Int → Int → Option (Int)
  | 0, _, _, _, _ => none
  | k + 1, x0, x1, x5, x6 => if x6 ≥ 0 then (if 0 ≤ x6 then (if x6 < (x0.length : Int) then (spec_l10Value.l0 k x0 x1 (wrap64 ((wrap64 (x5 * x1)) + (rd x0 x6))) (wrap64 (x6 - 1))) else (none)) else (none)) else (some x5)
def spec_l10Value.f (k : Nat) (l0 : List Int) (a1 : Int) : Option (Int) := spec_l10Value.l0 k l0 a1 0 (wrap64 ((l0.length : Int) - 1))
theorem spec_l10Value.mono_l : ∀ k, (∀ y0 y1 y2 y3, LeO (spec_l10Value.l0 k y0 y1 y2 y3) (spec_l10Value.l0 (k + 1) y0 y1 y2 y3))
  | 0 => fun _ _ _ _ r h => by simp [spec_l10Value.l0] at h
  | k + 1 => by
    have ih0 := spec_l10Value.mono_l k
    · intro y0 y1 y2 y3
      unfold spec_l10Value.l0
      repeat' first
      | (with_reducible exact ih0 _ _ _ _)
      | (with_reducible exact LeO.refl _)
      | (with_reducible exact LeO.none _)
      | (with_reducible refine LeO.ite ?_ ?_)
      | (with_reducible refine LeO.bind ?_ (fun _ => ?_))
      | exact ih0 _ _ _ _
      | exact LeO.none _
      | refine LeO.ite ?_ ?_
      | refine LeO.bind ?_ (fun _ => ?_)
theorem spec_l10Value.mono : ∀ a0 a1 k, LeO (spec_l10Value.f k a0 a1) (spec_l10Value.f (k + 1) a0 a1) := by
  intro a0 a1 k
  have ih0 := spec_l10Value.mono_l k
  unfold spec_l10Value.f
  repeat' first
      | (with_reducible exact ih0 _ _ _ _)
      | (with_reducible exact LeO.refl _)
      | (with_reducible exact LeO.none _)
      | (with_reducible refine LeO.ite ?_ ?_)
      | (with_reducible refine LeO.bind ?_ (fun _ => ?_))
      | exact ih0 _ _ _ _
      | exact LeO.none _
      | refine LeO.ite ?_ ?_
      | refine LeO.bind ?_ (fun _ => ?_)
set_option maxHeartbeats 8000000 in
set_option maxRecDepth 100000 in
theorem spec_l10Value.calls (k : Nat) (A0 : Option Addr) (c0 : Nat) (l0 : List Int) (a1 : Int) (r : Int) (w : World) (hr0 : Kd.C (Kd.int .i64) w A0 l0.length l0) (hc0 : l0.length ≤ c0) (h : spec_l10Value.f k l0 a1 = some r) :
    Calls Tryz.prog 66 #[.slice A0 l0.length c0, .int .i64 a1] w fun e w' => e = .returned (.int .i64 r) ∧ Drawn0 w w' := by
  have HR0 := Aside0.mk hr0
  have HC0 := Aside0.mk hc0
  clear hr0 hc0
  have H : (spec_l10Value.l0 k l0 a1 0 (wrap64 ((l0.length : Int) - 1))) = some r := h
  clear h
  have H' := Aside0.mk H
  clear H
  go_enter Tryz.func66, Tryz.ntmps66
  go_wp2
  go_loopg [5, 6] k (fun kq v5 v6 w' => ∃ (x5_1 : Int) (x6_1 : Int), v5 = .int .i64 x5_1 ∧ v6 = .int .i64 x6_1 ∧ Aside0 (spec_l10Value.l0 kq l0 a1 x5_1 x6_1 = some r) ∧ Aside0 (kq ≤ k) ∧ Drawn0 w w')
  case atStart => exact ⟨(0), (wrap64 ((l0.length : Int) - 1)), (by first | rfl | (simp; done) | (simp [*]; done)), (by first | rfl | (simp; done) | (simp [*]; done)), H', ⟨Nat.le_refl _⟩, by repeat (first | exact Drawn0.refl _ | apply Drawn0.step)⟩
  case round =>
    clear H'
    try clear p2
    obtain ⟨x5_1, x6_1, rfl, rfl, HA, HK1, ⟨m1, rfl⟩⟩ := hrel
    cases gk with
    | zero => exact absurd HA.out (by simp [spec_l10Value.l0])
    | succ k1 =>
      have H := HA.out
      clear HA
      simp only [spec_l10Value.l0] at H
      by_cases c3 : x6_1 ≥ 0
      rotate_left
      · rw [if_neg c3] at H
        have c3b0 : decide (0 ≤ x6_1) = false := decide_eq_false c3
        clear c3
        obtain rfl := Option.some.inj H
        go_wp2
        go_ret
        exact ⟨by first | rfl | (simp; done) | (simp [*]; done), by repeat (first | exact Drawn0.refl _ | apply Drawn0.step)⟩
      rw [if_pos c3] at H
      have c3b0 : decide (0 ≤ x6_1) = true := decide_eq_true c3
      clear c3
      by_cases c4 : 0 ≤ x6_1
      rotate_left
      · rw [if_neg c4] at H
        exact absurd H (by simp)
      rw [if_pos c4] at H
      have c4b0 : decide (0 ≤ x6_1) = true := decide_eq_true c4
      clear c4
      by_cases c5 : x6_1 < (l0.length : Int)
      rotate_left
      · rw [if_neg c5] at H
        exact absurd H (by simp)
      rw [if_pos c5] at H
      have c5b0 : decide (x6_1 < (l0.length : Int)) = true := decide_eq_true c5
      clear c5
      have H' := Aside0.mk H
      clear H
      have p661001 : 0 ≤ (x6_1 : Int) := of_decide_eq_true (by first | (with_reducible assumption) | assumption)
      have q661001 : x6_1 < (l0.length : Int) := of_decide_eq_true (by first | (with_reducible assumption) | assumption)
      obtain ⟨ad661001, e661001, hx661001_0⟩ := Kd.at_int HR0.out x6_1 p661001 q661001
      cases e661001
      replace p661001 := eq_true p661001
      replace q661001 := eq_true q661001
      go_wp2
      go_roundg k1
      case measure => have := HK1.out; omega
      case rel => exact ⟨(wrap64 ((wrap64 (x5_1 * a1)) + (rd l0 x6_1))), (wrap64 (x6_1 - 1)), (by first | rfl | (simp; done) | (simp [*]; done)), (by first | rfl | (simp; done) | (simp [*]; done)), H', ⟨by have := HK1.out; omega⟩, by repeat (first | exact Drawn0.refl _ | apply Drawn0.step)⟩
end Go.Proofs.YtcnekpdoldljgaaGreat.F
end
section
namespace Go.Proofs.YtcnekpdoldljgaaGreat.F
open Go.RowKit Go.Proofs.YtcnekpdoldljgaaGreatW.PrintWords Go.Proofs.YtcnekpdoldljgaaGreatW.PrintLast Go.Proofs.YtcnekpdoldljgaaGreatW.PrintMore
attribute [local go_sem] max2_int min2_int max_two min_two max_three min_three max_four min_four   
set_option linter.unusedVariables false
set_option linter.unusedSimpArgs false
def spec_ValueOfInterlace.f (k : Nat) (l0 : List Int) (a1 : Int) : Option (Int × Int) := (spec_l01Is.f k l0).bind fun t211001 => (if t211001 = true then ((spec_l01In.f a1 (-100) 100).bind fun t211002 => (if t211002 = true then ((spec_l10Interlace.f l0).bind fun t211003 => ((spec_l10Value.f k t211003 a1).bind fun t211006 => (some (t211006, 0)))) else (some (0, 2)))) else (some (0, 1)))
theorem spec_ValueOfInterlace.mono : ∀ a0 a1 k, LeO (spec_ValueOfInterlace.f k a0 a1) (spec_ValueOfInterlace.f (k + 1) a0 a1) := by
  intro a0 a1 k
  unfold spec_ValueOfInterlace.f
  repeat' first
      | (with_reducible exact spec_l01Is.mono _ _)
      | (with_reducible exact spec_l10Value.mono _ _ _)
      | (with_reducible exact LeO.refl _)
      | (with_reducible exact LeO.none _)
      | (with_reducible refine LeO.ite ?_ ?_)
      | (with_reducible refine LeO.bind ?_ (fun _ => ?_))
      | exact spec_l01Is.mono _ _
      | exact spec_l10Value.mono _ _ _
      | exact LeO.none _
      | refine LeO.ite ?_ ?_
      | refine LeO.bind ?_ (fun _ => ?_)
set_option maxHeartbeats 8000000 in
set_option maxRecDepth 100000 in
theorem spec_ValueOfInterlace.calls (k : Nat) (A0 : Option Addr) (c0 : Nat) (l0 : List Int) (a1 : Int) (r1 : Int) (r2 : Int) (w : World) (hr0 : Kd.C (Kd.int .i64) w A0 l0.length l0) (hc0 : l0.length ≤ c0) (h : spec_ValueOfInterlace.f k l0 a1 = some (r1, r2)) :
    Calls Tryz.prog 21 #[.slice A0 l0.length c0, .int .i64 a1] w fun e w' => e = .returned (.tuple #[.int .i64 r1, .int .i64 r2]) ∧ Below w.heap.size w w' := by
  have HR0 := Aside0.mk hr0
  have HC0 := Aside0.mk hc0
  clear hr0 hc0
  have HB := Aside0.mk (Below.refl w.heap.size w)
  have H : ((spec_l01Is.f k l0).bind fun t211001 => (if t211001 = true then ((spec_l01In.f a1 (-100) 100).bind fun t211002 => (if t211002 = true then ((spec_l10Interlace.f l0).bind fun t211003 => ((spec_l10Value.f k t211003 a1).bind fun t211006 => (some (t211006, 0)))) else (some (0, 2)))) else (some (0, 1)))) = some (r1, r2) := h
  clear h
  replace H := Option.bind_eq_some_iff.mp H
  obtain ⟨t211001, A30, H⟩ := H
  replace H : (if t211001 = true then ((spec_l01In.f a1 (-100) 100).bind fun t211002 => (if t211002 = true then ((spec_l10Interlace.f l0).bind fun t211003 => ((spec_l10Value.f k t211003 a1).bind fun t211006 => (some (t211006, 0)))) else (some (0, 2)))) else (some (0, 1))) = some (r1, r2) := H
  have A3 := Aside0.mk A30
  clear A30
  by_cases c4 : t211001 = true
  rotate_left
  · replace c4 := Bool.eq_false_iff.mpr c4
    subst c4
    have H1 : (some (0, 1)) = some (r1, r2) := by rw [if_neg (show ¬ (false = true) by decide)] at H; exact H
    clear H
    have H := H1
    clear H1
    simp only [Option.some.injEq, Prod.mk.injEq] at H
    obtain ⟨rfl, rfl⟩ := H
    go_enter Tryz.func21, Tryz.ntmps21
    go_wp2_with (first | ((with_reducible refine gate_callee (f := 64) rfl ?_); refine goesL_ (some 8) rfl rfl Tryz.func64 (by kernel_rfl) rfl #[.slice A0 l0.length c0] rfl (by (try simp only [List.map_toArray, List.map_cons, List.map_nil]); first | done | rfl | (simp only [List.length_drop, List.length_take]; rfl)) ?_; (with_reducible refine (spec_l01Is.calls k _ _ l0 false _ ?side1 ?side2 A3.out).mono ?_); (case side1 => repeat (first | exact HR0.out | (with_reducible refine Kd.C_alloc ?_ _) | (with_reducible refine Kd.C_drewN ?_ _) | (with_reducible refine Kd.C_drew ?_))); (case side2 => exact HC0.out); rintro e w13 ⟨rfl, hb⟩; refine ⟨_, rfl, ?_⟩; have n0_ := Aside0.mk (below_step (by repeat (first | (with_reducible first | exact HB.out | apply below_alloc | apply pw_below_drewN | apply below_drew1) | exact HB.out)) hb); clear HB; have HB := n0_; clear n0_; (try clear hb); (try clear hb2); (try clear hk); (try clear hi)))
    go_ret2
    exact ⟨by first | rfl | (simp [errW_none, errW_some] <;> rfl) | (simp [*, errW_none, errW_some] <;> rfl), by repeat (first | (with_reducible first | exact HB.out | apply below_alloc | apply pw_below_drewN | apply below_drew1) | exact HB.out)⟩
  subst c4
  have H1 : ((spec_l01In.f a1 (-100) 100).bind fun t211002 => (if t211002 = true then ((spec_l10Interlace.f l0).bind fun t211003 => ((spec_l10Value.f k t211003 a1).bind fun t211006 => (some (t211006, 0)))) else (some (0, 2)))) = some (r1, r2) := by rw [if_pos rfl] at H; exact H
  clear H
  have H := H1
  clear H1
  replace H := Option.bind_eq_some_iff.mp H
  obtain ⟨t211002, A50, H⟩ := H
  replace H : (if t211002 = true then ((spec_l10Interlace.f l0).bind fun t211003 => ((spec_l10Value.f k t211003 a1).bind fun t211006 => (some (t211006, 0)))) else (some (0, 2))) = some (r1, r2) := H
  have A5 := Aside0.mk A50
  clear A50
  by_cases c6 : t211002 = true
  rotate_left
  · replace c6 := Bool.eq_false_iff.mpr c6
    subst c6
    have H1 : (some (0, 2)) = some (r1, r2) := by rw [if_neg (show ¬ (false = true) by decide)] at H; exact H
    clear H
    have H := H1
    clear H1
    simp only [Option.some.injEq, Prod.mk.injEq] at H
    obtain ⟨rfl, rfl⟩ := H
    go_enter Tryz.func21, Tryz.ntmps21
    go_wp2_with (first | ((with_reducible refine gate_callee (f := 64) rfl ?_); refine goesL_ (some 8) rfl rfl Tryz.func64 (by kernel_rfl) rfl #[.slice A0 l0.length c0] rfl (by (try simp only [List.map_toArray, List.map_cons, List.map_nil]); first | done | rfl | (simp only [List.length_drop, List.length_take]; rfl)) ?_; (with_reducible refine (spec_l01Is.calls k _ _ l0 true _ ?side1 ?side2 A3.out).mono ?_); (case side1 => repeat (first | exact HR0.out | (with_reducible refine Kd.C_alloc ?_ _) | (with_reducible refine Kd.C_drewN ?_ _) | (with_reducible refine Kd.C_drew ?_))); (case side2 => exact HC0.out); rintro e w12 ⟨rfl, hb⟩; refine ⟨_, rfl, ?_⟩; have n0_ := Aside0.mk (below_step (by repeat (first | (with_reducible first | exact HB.out | apply below_alloc | apply pw_below_drewN | apply below_drew1) | exact HB.out)) hb); clear HB; have HB := n0_; clear n0_; (try clear hb); (try clear hb2); (try clear hk); (try clear hi)) | ((with_reducible refine gate_callee (f := 65) rfl ?_); refine goesL_ (some 12) rfl rfl Tryz.func65 (by kernel_rfl) rfl #[.int .i64 a1, .int .i64 (-100), .int .i64 100] rfl (by (try simp only [List.map_toArray, List.map_cons, List.map_nil]); first | done | rfl | (simp only [List.length_drop, List.length_take]; rfl)) ?_; (with_reducible refine (spec_l01In.calls a1 (-100) 100 false _ A5.out).mono ?_); rintro e w' ⟨rfl, ⟨nd, rfl⟩⟩; refine ⟨_, rfl, ?_⟩))
    go_ret2
    exact ⟨by first | rfl | (simp [errW_none, errW_some] <;> rfl) | (simp [*, errW_none, errW_some] <;> rfl), by repeat (first | (with_reducible first | exact HB.out | apply below_alloc | apply pw_below_drewN | apply below_drew1) | exact HB.out)⟩
  subst c6
  have H1 : ((spec_l10Interlace.f l0).bind fun t211003 => ((spec_l10Value.f k t211003 a1).bind fun t211006 => (some (t211006, 0)))) = some (r1, r2) := by rw [if_pos rfl] at H; exact H
  clear H
  have H := H1
  clear H1
  replace H := Option.bind_eq_some_iff.mp H
  obtain ⟨t211003, A70, H⟩ := H
  replace H : ((spec_l10Value.f k t211003 a1).bind fun t211006 => (some (t211006, 0))) = some (r1, r2) := H
  have A7 := Aside0.mk A70
  clear A70
  replace H := Option.bind_eq_some_iff.mp H
  obtain ⟨t211006, A80, H⟩ := H
  replace H : (some (t211006, 0)) = some (r1, r2) := H
  have A8 := Aside0.mk A80
  clear A80
  simp only [Option.some.injEq, Prod.mk.injEq] at H
  obtain ⟨rfl, rfl⟩ := H
  go_enter Tryz.func21, Tryz.ntmps21
  go_wp2_with (first | ((with_reducible refine gate_callee (f := 64) rfl ?_); refine goesL_ (some 8) rfl rfl Tryz.func64 (by kernel_rfl) rfl #[.slice A0 l0.length c0] rfl (by (try simp only [List.map_toArray, List.map_cons, List.map_nil]); first | done | rfl | (simp only [List.length_drop, List.length_take]; rfl)) ?_; (with_reducible refine (spec_l01Is.calls k _ _ l0 true _ ?side1 ?side2 A3.out).mono ?_); (case side1 => repeat (first | exact HR0.out | (with_reducible refine Kd.C_alloc ?_ _) | (with_reducible refine Kd.C_drewN ?_ _) | (with_reducible refine Kd.C_drew ?_))); (case side2 => exact HC0.out); rintro e w9 ⟨rfl, hb⟩; refine ⟨_, rfl, ?_⟩; have n0_ := Aside0.mk (below_step (by repeat (first | (with_reducible first | exact HB.out | apply below_alloc | apply pw_below_drewN | apply below_drew1) | exact HB.out)) hb); clear HB; have HB := n0_; clear n0_; (try clear hb); (try clear hb2); (try clear hk); (try clear hi)) | ((with_reducible refine gate_callee (f := 65) rfl ?_); refine goesL_ (some 12) rfl rfl Tryz.func65 (by kernel_rfl) rfl #[.int .i64 a1, .int .i64 (-100), .int .i64 100] rfl (by (try simp only [List.map_toArray, List.map_cons, List.map_nil]); first | done | rfl | (simp only [List.length_drop, List.length_take]; rfl)) ?_; (with_reducible refine (spec_l01In.calls a1 (-100) 100 true _ A5.out).mono ?_); rintro e w' ⟨rfl, ⟨nd, rfl⟩⟩; refine ⟨_, rfl, ?_⟩) | ((with_reducible refine gate_callee (f := 59) rfl ?_); refine goesL_ (some 15) rfl rfl Tryz.func59 (by kernel_rfl) rfl #[.slice A0 l0.length c0] rfl (by (try simp only [List.map_toArray, List.map_cons, List.map_nil]); first | done | rfl | (simp only [List.length_drop, List.length_take]; rfl)) ?_; (with_reducible refine (spec_l10Interlace.calls _ _ l0 t211003 _ ?side1 ?side2 A7.out).mono ?_); (case side1 => repeat (first | exact (Kd.C_below HR0.out (by repeat (first | (with_reducible first | exact HB.out | apply below_alloc | apply pw_below_drewN | apply below_drew1) | exact HB.out))) | (with_reducible refine Kd.C_alloc ?_ _) | (with_reducible refine Kd.C_drewN ?_ _) | (with_reducible refine Kd.C_drew ?_))); (case side2 => exact HC0.out); rintro e w10 ⟨v211004, rfl, ho0, hb⟩; refine ⟨_, rfl, ?_⟩; have n0_ := Aside0.mk (Kd.R_lower ho0 (below_size (by repeat (first | (with_reducible first | exact HB.out | apply below_alloc | apply pw_below_drewN | apply below_drew1) | exact HB.out)))); have n1_ := Aside0.mk (below_step (by repeat (first | (with_reducible first | exact HB.out | apply below_alloc | apply pw_below_drewN | apply below_drew1) | exact HB.out)) hb); clear HB; have HO211005 := n0_; have HB := n1_; clear n0_ n1_; (try clear hb); (try clear hb2); (try clear hk); (try clear hi); (try clear ho0); obtain ⟨Ao11, co11, eo11⟩ := Kd.R_slice HO211005.out; subst eo11) | ((with_reducible refine gate_callee (f := 66) rfl ?_); refine goesL_ (some 17) rfl rfl Tryz.func66 (by kernel_rfl) rfl #[.slice Ao11 t211003.length co11, .int .i64 a1] rfl (by (try simp only [List.map_toArray, List.map_cons, List.map_nil]); first | done | rfl | (simp only [List.length_drop, List.length_take]; rfl)) ?_; (with_reducible refine (spec_l10Value.calls k _ _ t211003 a1 t211006 _ ?side1 ?side2 A8.out).mono ?_); (case side1 => repeat (first | exact (Kd.R_reads' HO211005.out).2.2 | (with_reducible refine Kd.C_alloc ?_ _) | (with_reducible refine Kd.C_drewN ?_ _) | (with_reducible refine Kd.C_drew ?_))); (case side2 => exact (Kd.R_reads' HO211005.out).2.1); rintro e w' ⟨rfl, ⟨nd, rfl⟩⟩; refine ⟨_, rfl, ?_⟩))
  go_ret2
  exact ⟨by first | rfl | (simp [errW_none, errW_some] <;> rfl) | (simp [*, errW_none, errW_some] <;> rfl), by repeat (first | (with_reducible first | exact HB.out | apply below_alloc | apply pw_below_drewN | apply below_drew1) | exact HB.out)⟩
end Go.Proofs.YtcnekpdoldljgaaGreat.F
end
section
namespace Go.Proofs.YtcnekpdoldljgaaGreat.F
open Go.RowKit Go.Proofs.YtcnekpdoldljgaaGreatW.PrintWords Go.Proofs.YtcnekpdoldljgaaGreatW.PrintLast Go.Proofs.YtcnekpdoldljgaaGreatW.PrintMore
attribute [local go_sem] max2_int min2_int max_two min_two max_three min_three max_four min_four   
set_option linter.unusedVariables false
set_option linter.unusedSimpArgs false
open Go.Proofs.YtcnekpdoldljgaaGreat.Pure Go.Proofs.YtcnekpdoldljgaaGreat.Mem
def idxF (P : Nat → Bool) : List Nat → Nat → Int
 | [], _ => -1
 | r :: t, n => if P r = true then n else idxF P t (n + 1)
theorem idxF_ge (P : Nat → Bool) : ∀ (l : List Nat) (n : Nat), decide (0 ≤ idxF P l n) = l.any P
 | [], n => by simp [idxF]
 | r :: t, n => by
  rw [idxF, List.any_cons]
  by_cases h : P r = true
  ·rw [if_pos h, h, Bool.true_or]; simp
  ·rw [if_neg h, show P r = false from by simpa using h, Bool.false_or]; exact idxF_ge P t (n + 1)
theorem idxF_skip {P : Nat → Bool} {l : List Nat} : ∀ n : Nat, n ≤ l.length → (l.take n).any P = false → idxF P l 0 = idxF P (l.drop n) n
 | 0, _, _ => rfl
 | n + 1, hn, h => by
  rw [List.take_succ_eq_append_getElem (by omega), List.any_append, Bool.or_eq_false_iff] at h
  rw [idxF_skip n (by omega) h.1, List.drop_eq_getElem_cons (by omega), idxF, if_neg (by simpa using h.2)]
structure SEnv (w : World) (l0 : List Int) (A0 : Option Addr) (c0 n : Nat) (cr : Bool) (Bw Bc Bo Br : Nat) : Prop where
 cw : w.cell? ⟨Bw, 0, none⟩ = some (.slice A0 l0.length c0)
 cc : w.cell? ⟨Bc, 0, none⟩ = some (.bool cr)
 co : w.cell? ⟨Bo, 0, none⟩ = some (.slice (some ⟨Br, 0, none⟩) (n + 1) (n + 1))
 n1 : Bw ≠ Br
 n2 : Bc ≠ Br
 n3 : Bo ≠ Br
 rd : Kd.F (Kd.int .i64) w (fun k => k ≠ Br) A0 l0.length l0
 lt : Br < w.heap.size
theorem SEnv.grown {w w' : World} {l0 : List Int} {A0 : Option Addr} {c0 n : Nat} {cr : Bool} {Bw Bc Bo Br : Nat} (h : SEnv w l0 A0 c0 n cr Bw Bc Bo Br) (hg : w.grownBy w' (some Br)) : SEnv w' l0 A0 c0 n cr Bw Bc Bo Br :=
 ⟨hg.cell h.cw (fun e => h.n1 (Option.some.inj e)), hg.cell h.cc (fun e => h.n2 (Option.some.inj e)), hg.cell h.co (fun e => h.n3 (Option.some.inj e)), h.n1, h.n2, h.n3,
  Kd.F_grown h.rd hg (fun k hk e => hk (Option.some.inj e)), Nat.lt_of_lt_of_le h.lt hg.size⟩
set_option maxHeartbeats 8000000 in
set_option maxRecDepth 100000 in
theorem setNumbers_1_1 (l0 : List Int) (hw : Word l0) (A0 : Option Addr) (c0 n : Nat) (cr : Bool) (Bw Bc Ba a b : Nat) (v : Bool) (hv : (crossB l0 a b != cr) = v) (hn : n = l0.length / 2) (hc0 : l0.length ≤ c0) (ha : a < n) (hb : b < n) (w : World) (hr : Kd.C (Kd.int .i64) w A0 l0.length l0)
  (h1 : w.cell? ⟨Bw, 0, none⟩ = some (.slice A0 l0.length c0)) (h2 : w.cell? ⟨Bc, 0, none⟩ = some (.bool cr)) (h3 : w.cell? ⟨Ba, 0, none⟩ = some (.int .i64 (a : Int))) :
  Calls Tryz.prog 132 #[.int .i64 (b : Int), .pointer (some ⟨Bw, 0, none⟩), .pointer (some ⟨Ba, 0, none⟩), .pointer (some ⟨Bc, 0, none⟩)] w fun e w' => e = .returned (.bool v) ∧ ∃ nd, w' = w.drewN nd := by
 subst hv
 have hle := hw.le
 obtain ⟨x, hx⟩ : ∃ x, x = crossB l0 a b := ⟨_, rfl⟩
 obtain ⟨q, hq⟩ := Ev.rounds (icross_ev l0 hw a b (by omega) (by omega))
 rw [← hx] at hq ⊢
 have HQ := Aside0.mk hq
 have HR := Aside0.mk hr
 have HC := Aside0.mk hc0
 clear hq hr hc0 hw hx hn
 go_enter Tryz.func132, Tryz.ntmps132
 go_wp2_with fail
 go_quiet ((go_at_call 76; exact Calls.quiet_of ((impl_cross.calls q A0 c0 l0 (a : Int) (b : Int) x _ (Kd.C_drewN HR.out _) HC.out HQ.out).mono (fun _ _ h => ⟨h.1, h.2.out⟩))))
 go_wp2
 go_ret
 exact ⟨rfl, _, rfl⟩
set_option maxHeartbeats 8000000 in
set_option maxRecDepth 100000 in
theorem setNumbers_IndexFunc (l0 : List Int) (hw : Word l0) (A0 : Option Addr) (c0 n : Nat) (cr : Bool) (Bw Bc Ba a : Nat) (hn : n = l0.length / 2) (hc0 : l0.length ≤ c0) (ha : a < n) (l : List Nat) (hl : ∀ b ∈ l, b < n) (hll : l.length ≤ 6) (A : Option Addr) (c : Nat) (w : World) (hr : Kd.C (Kd.int .i64) w A0 l0.length l0)
  (hL : Kd.C (Kd.int .i64) w A (ints l).length (ints l)) (h1 : w.cell? ⟨Bw, 0, none⟩ = some (.slice A0 l0.length c0)) (h2 : w.cell? ⟨Bc, 0, none⟩ = some (.bool cr)) (h3 : w.cell? ⟨Ba, 0, none⟩ = some (.int .i64 (a : Int))) :
  Calls Tryz.prog 168 #[.slice A (ints l).length c, .func (.func 132) #[] #[.pointer (some ⟨Bw, 0, none⟩), .pointer (some ⟨Ba, 0, none⟩), .pointer (some ⟨Bc, 0, none⟩)]] w fun e w' =>
   e = .returned (.int .i64 (idxF (fun b => crossB l0 a b != cr) l 0)) ∧ ∃ nd, w' = w.drewN nd := by
 have HW := Aside0.mk hw
 have HN := Aside0.mk hn
 have HR := Aside0.mk hr
 have HC := Aside0.mk hc0
 have HL := Aside0.mk hl
 have HLL := Aside0.mk hL
 have H1 := Aside0.mk h1
 have H2 := Aside0.mk h2
 have H3 := Aside0.mk h3
 have HIL := Aside0.mk (ints_len l)
 obtain ⟨P, hP⟩ : ∃ P : Nat → Bool, P = fun b => crossB l0 a b != cr := ⟨_, rfl⟩
 rw [← hP]
 have HP := Aside0.mk hP
 clear hw hn hr hc0 hl hL h1 h2 h3 hP
 go_enter Tryz.func168, Tryz.ntmps168
 go_wp2
 go_loopw [8] (fun i wr => ∃ x : Nat, i = .int .i64 (x : Int) ∧ Aside0 (x ≤ l.length) ∧ Aside0 ((l.take x).any P = false) ∧ ∃ nd, wr = w.drewN nd)
  (fun i _ => l.length - (intOf i).toNat)
 case atStart => exact ⟨0, rfl, ⟨Nat.zero_le _⟩, ⟨rfl⟩, 0, rfl⟩
 case round =>
  obtain ⟨x, rfl, HX, HA, nd, rfl⟩ := hrel
  by_cases hlt : x < l.length
  rotate_left
  ·have t1 : decide ((x : Int) < ((ints l).length : Int)) = false := decide_eq_false (by rw [HIL.out]; omega)
   have t2 : decide (x < (ints l).length) = false := decide_eq_false (by rw [HIL.out]; omega)
   have HXE := Aside0.mk (show x = l.length from by have := HX.out; omega)
   clear hlt
   go_wp2
   go_ret
   refine ⟨?_, _, rfl⟩
   have h := HA.out
   rw [HXE.out] at h
   rw [idxF_skip l.length (Nat.le_refl _) h, List.drop_of_length_le (Nat.le_refl _)]
   rfl
  have t1 : decide ((x : Int) < ((ints l).length : Int)) = true := decide_eq_true (by rw [HIL.out]; omega)
  have t2 : decide (x < (ints l).length) = true := decide_eq_true (by rw [HIL.out]; omega)
  obtain ⟨ad, ead, hcell⟩ := cell_of_C HLL.out x (by rw [HIL.out]; exact hlt)
  subst ead
  rw [ints_getD l x hlt] at hcell
  obtain ⟨b, hb⟩ : ∃ b, b = l.getD x 0 := ⟨_, rfl⟩
  rw [← hb] at hcell
  have HB := Aside0.mk hb
  have HBN := Aside0.mk (show b < n from by rw [hb]; exact HL.out _ (by rw [List.getD_eq_getElem?_getD, List.getElem?_eq_getElem hlt]; exact List.getElem_mem _))
  have HT := Aside0.mk (show l.take (x + 1) = l.take x ++ [b] from by rw [List.take_succ_eq_append_getElem hlt, hb, List.getD_eq_getElem?_getD, List.getElem?_eq_getElem hlt]; rfl)
  have HD := Aside0.mk (show l.drop x = b :: l.drop (x + 1) from by rw [List.drop_eq_getElem_cons hlt, hb, List.getD_eq_getElem?_getD, List.getElem?_eq_getElem hlt]; rfl)
  have HLT := Aside0.mk hlt
  have hxl : x < (ints l).length := by rw [HIL.out]; exact hlt
  clear hlt hb
  obtain ⟨v, hv⟩ : ∃ v, (crossB l0 a b != cr) = v := ⟨_, rfl⟩
  have HVV := Aside0.mk hv
  have HV := Aside0.mk (show P b = v from by rw [HP.out]; exact hv)
  clear hv
  cases v with
  | true =>
   go_wp2_with (first | (go_at_call 132; refine (setNumbers_1_1 l0 HW.out A0 c0 n cr Bw Bc Ba a b _ HVV.out HN.out HC.out ha HBN.out _ (Kd.C_drewN HR.out _) H1.out H2.out H3.out).mono ?_; rintro e w2 ⟨rfl, ⟨nd2, rfl⟩⟩))
   go_ret
   refine ⟨?_, _, rfl⟩
   rw [idxF_skip x HX.out HA.out, HD.out, idxF, if_pos HV.out]
   rfl
  | false =>
   go_wp2_with (first | (go_at_call 132; refine (setNumbers_1_1 l0 HW.out A0 c0 n cr Bw Bc Ba a b _ HVV.out HN.out HC.out ha HBN.out _ (Kd.C_drewN HR.out _) H1.out H2.out H3.out).mono ?_; rintro e w2 ⟨rfl, ⟨nd2, rfl⟩⟩))
   go_roundw
   case rel => exact ⟨x + 1, congrArg _ (wS (by have := HLT.out; omega)), ⟨HLT.out⟩, ⟨by rw [HT.out, List.any_append, HA.out]; simp [HV.out]⟩, _, rfl⟩
   case measure => have := HLT.out; rw [wS (by omega)]; simp [intOf]; omega
set_option maxHeartbeats 8000000 in
set_option maxRecDepth 100000 in
theorem setNumbers_ContainsFunc (l0 : List Int) (hw : Word l0) (A0 : Option Addr) (c0 n : Nat) (cr : Bool) (Bw Bc Ba a : Nat) (hn : n = l0.length / 2) (hc0 : l0.length ≤ c0) (ha : a < n) (l : List Nat) (hl : ∀ b ∈ l, b < n) (hll : l.length ≤ 6) (A : Option Addr) (c : Nat) (w : World) (hr : Kd.C (Kd.int .i64) w A0 l0.length l0)
  (hL : Kd.C (Kd.int .i64) w A (ints l).length (ints l)) (h1 : w.cell? ⟨Bw, 0, none⟩ = some (.slice A0 l0.length c0)) (h2 : w.cell? ⟨Bc, 0, none⟩ = some (.bool cr)) (h3 : w.cell? ⟨Ba, 0, none⟩ = some (.int .i64 (a : Int))) :
  Calls Tryz.prog 131 #[.slice A (ints l).length c, .func (.func 132) #[] #[.pointer (some ⟨Bw, 0, none⟩), .pointer (some ⟨Ba, 0, none⟩), .pointer (some ⟨Bc, 0, none⟩)]] w fun e w' =>
   e = .returned (.bool (l.any fun b => crossB l0 a b != cr)) ∧ ∃ nd, w' = w.drewN nd := by
 have HI := Aside0.mk (idxF_ge (fun b => crossB l0 a b != cr) l 0)
 have HW := Aside0.mk hw
 have HN := Aside0.mk hn
 have HR := Aside0.mk hr
 have HC := Aside0.mk hc0
 have HL := Aside0.mk hl
 have HLL := Aside0.mk hL
 have H1 := Aside0.mk h1
 have H2 := Aside0.mk h2
 have H3 := Aside0.mk h3
 clear hw hn hr hc0 hl hL h1 h2 h3
 go_enter Tryz.func131, Tryz.ntmps131
 go_wp2_with (first | (go_at_call 168; refine (setNumbers_IndexFunc l0 HW.out A0 c0 n cr Bw Bc Ba a HN.out HC.out ha l HL.out hll A c _ HR.out HLL.out H1.out H2.out H3.out).mono ?_; rintro e w1 ⟨rfl, ⟨nd, rfl⟩⟩))
 go_ret
 exact ⟨by rw [← HI.out]; rfl, _, rfl⟩
def okTo (X : Nat → Nat → Bool) (cr : Bool) (l : List Nat) : Nat → Bool
 | 0 => true
 | i + 1 => okTo X cr l i && !((l.take i).any fun b => X (l.getD i 0) b != cr)
def bump (X : Nat → Nat → Bool) (cr : Bool) (l : List Nat) (out : List Int) : List Int := if okTo X cr l l.length = true then out.set l.length (wrap64 (out.getD l.length 0 + 1)) else out
theorem okTo_stop {X : Nat → Nat → Bool} {cr : Bool} {l : List Nat} {i : Nat} (h : okTo X cr l i = false) : ∀ d, okTo X cr l (i + d) = false
 | 0 => h
 | d + 1 => by rw [← Nat.add_assoc, okTo, okTo_stop h d, Bool.false_and]
set_option maxHeartbeats 8000000 in
set_option maxRecDepth 100000 in
theorem setNumbers_1 (l0 : List Int) (hw : Word l0) (A0 : Option Addr) (c0 n : Nat) (cr : Bool) (Bw Bc Bo Br : Nat) (hn : n = l0.length / 2) (hc0 : l0.length ≤ c0) (l : List Nat) (hl : ∀ b ∈ l, b < n) (hln : l.length ≤ n) (A : Option Addr) (c : Nat) (out : List Int) (w : World) (E : SEnv w l0 A0 c0 n cr Bw Bc Bo Br)
  (ho : out.length = n + 1) (hr : w.heap[Br]? = some (.cells (nums .i64 out).toArray 2 (0, 0))) (hF : Kd.F (Kd.int .i64) w (fun k => k ≠ Br) A (ints l).length (ints l)) (hc : (ints l).length ≤ c) :
  Calls Tryz.prog 130 #[.slice A (ints l).length c, .pointer (some ⟨Bw, 0, none⟩), .pointer (some ⟨Bc, 0, none⟩), .pointer (some ⟨Bo, 0, none⟩)] w fun e w' =>
   e = .returned (.tuple #[]) ∧ w.grownBy w' (some Br) ∧ w'.heap[Br]? = some (.cells (nums .i64 (bump (crossB l0) cr l out)).toArray 2 (0, 0)) := by
 have hle := hw.le
 have hn6 : n ≤ 6 := by omega
 have HW := Aside0.mk hw
 have HN := Aside0.mk hn
 have HC0 := Aside0.mk hc0
 have HL := Aside0.mk hl
 have HLN := Aside0.mk hln
 have HE := Aside0.mk E
 have HO := Aside0.mk ho
 have HR := Aside0.mk hr
 have HF := Aside0.mk hF
 have HC := Aside0.mk hc
 have HIL := Aside0.mk (ints_len l)
 clear hw hn hc0 hl hln E ho hr hF hc hle
 have hmf : ∀ (fn : Fn) (first cap : Array Value) (w : World), (Instr.makeFunc fn first cap).run Tryz.prog w = .ok (.func fn first cap) w := fun _ _ _ _ => rfl
 go_enter Tryz.func130, Tryz.ntmps130
 go_wp2
 go_loopw [9] (fun i wr => ∃ x : Nat, i = .int .i64 (x : Int) ∧ Aside0 (x ≤ l.length) ∧ Aside0 (okTo (crossB l0) cr l x = true) ∧ Aside0 (Below w.heap.size w wr))
  (fun i _ => l.length - (intOf i).toNat)
 case atStart => exact ⟨0, rfl, ⟨Nat.zero_le _⟩, ⟨rfl⟩, ⟨Below.refl _ _⟩⟩
 case round =>
  obtain ⟨x, rfl, HX, HA, HB⟩ := hrel
  have HE1 := Aside0.mk (HE.out.grown (gb_of_below HB.out _))
  have HF1 := Aside0.mk (Kd.F_below HF.out HB.out)
  have HR1 := Aside0.mk ((HB.out.block Br HE.out.lt).trans HR.out)
  by_cases hlt : x < l.length
  rotate_left
  ·have t1 : decide ((x : Int) < ((ints l).length : Int)) = false := decide_eq_false (by rw [HIL.out]; omega)
   have t2 : decide (x < (ints l).length) = false := decide_eq_false (by rw [HIL.out]; omega)
   have HXE := Aside0.mk (show x = l.length from by have := HX.out; omega)
   have h2 := HE1.out.co
   have hx := blk_cell HR1.out (ints l).length
   have hlo : (ints l).length < n + 1 := by rw [HIL.out]; have := HLN.out; omega
   rw [nums_get out _ (by rw [HO.out]; exact hlo)] at hx
   have hfz := blk_frozen HR1.out (ints l).length
   clear hlt
   go_wp2
   go_end0
   refine ⟨rfl, grown_set (gb_of_below HB.out _) _ _, ?_⟩
   have h3 := HA.out
   rw [HXE.out] at h3
   rw [blk_set HR1.out, nums_set, bump, if_pos h3, HIL.out, List.getD_eq_getElem?_getD]
  have t1 : decide ((x : Int) < ((ints l).length : Int)) = true := decide_eq_true (by rw [HIL.out]; omega)
  have t2 : decide (x < (ints l).length) = true := decide_eq_true (by rw [HIL.out]; omega)
  obtain ⟨ad, ead, hcell⟩ := cell_of_C (Kd.F_now HF1.out) x (by rw [HIL.out]; exact hlt)
  subst ead
  rw [ints_getD l x hlt] at hcell
  obtain ⟨a, ha⟩ : ∃ a, a = l.getD x 0 := ⟨_, rfl⟩
  rw [← ha] at hcell
  have HAA := Aside0.mk ha
  have HAN := Aside0.mk (show a < n from by rw [ha]; exact HL.out _ (by rw [List.getD_eq_getElem?_getD, List.getElem?_eq_getElem hlt]; exact List.getElem_mem _))
  have HLT := Aside0.mk hlt
  have hxl : x < (ints l).length := by rw [HIL.out]; exact hlt
  obtain ⟨i0, hi0, _, hsz, _⟩ := info_parts info2
  obtain ⟨hcut, hA, hC4⟩ := print_take_of (P := Tryz.prog) (Value.int .i64) 0 37 2 .i64 Tryz.underlying37 hi0 hsz (some ad) c (ints l) (x : Int) (by omega) (by omega) HC.out
  have HCUT := Aside0.mk (hA)
  have HC4 := Aside0.mk hC4
  rw [Int.toNat_natCast] at HCUT HC4 hcut
  have HTK := Aside0.mk (show (ints l).take x = ints (l.take x) from by unfold ints; rw [List.map_take])
  rw [HTK.out] at HCUT HC4 hcut
  obtain ⟨v, hv⟩ : ∃ v, ((l.take x).any fun b => crossB l0 a b != cr) = v := ⟨_, rfl⟩
  have HV := Aside0.mk hv
  clear hlt ha hA hC4 hi0 hsz hv
  cases v with
  | true =>
   go_wp2_with (first | (go_at_call 131; refine (setNumbers_ContainsFunc l0 HW.out A0 c0 n cr Bw Bc wr.heap.size a HN.out HC0.out HAN.out (l.take x) (fun b hb => HL.out b (List.mem_of_mem_take hb)) (by rw [List.length_take]; have := HLN.out; omega) (some ad) c _ (Kd.C_alloc (Kd.F_now HE1.out.rd) _) (Kd.C_of_reads (h1 := fun _ => rfl) (HCUT.out _ (Kd.reads_of_C (Kd.C_alloc (Kd.F_now HF1.out) _)))) (HE1.out.grown (grown_alloc (grown_refl _ _) _)).cw (HE1.out.grown (grown_alloc (grown_refl _ _) _)).cc (cell1 (new_at rfl))).mono ?_; rintro e w2 ⟨rfl, ⟨nd, rfl⟩⟩; rw [HV.out]))
   (try simp only [Exit.inBlock, Exit.then])
   refine bodyPost_ret (results_none rfl _ _ _) rfl ?_
   refine ⟨rfl, gb_of_below (pw_below_drewN (below_alloc HB.out _) _) _, ?_⟩
   have h0 : okTo (crossB l0) cr l l.length = false := by
    have h1 : okTo (crossB l0) cr l (x + 1) = false := by rw [okTo, ← HAA.out, HV.out, Bool.not_true, Bool.and_false]
    have h2 := okTo_stop h1 (l.length - (x + 1))
    rw [Nat.add_sub_cancel' HLT.out] at h2
    exact h2
   rw [bump, h0, if_neg (by simp)]
   repeat (first | exact HR1.out | refine blk_alloc ?_ _ | refine blk_drewN ?_ _)
  | false =>
   go_wp2_with (first | (go_at_call 131; refine (setNumbers_ContainsFunc l0 HW.out A0 c0 n cr Bw Bc wr.heap.size a HN.out HC0.out HAN.out (l.take x) (fun b hb => HL.out b (List.mem_of_mem_take hb)) (by rw [List.length_take]; have := HLN.out; omega) (some ad) c _ (Kd.C_alloc (Kd.F_now HE1.out.rd) _) (Kd.C_of_reads (h1 := fun _ => rfl) (HCUT.out _ (Kd.reads_of_C (Kd.C_alloc (Kd.F_now HF1.out) _)))) (HE1.out.grown (grown_alloc (grown_refl _ _) _)).cw (HE1.out.grown (grown_alloc (grown_refl _ _) _)).cc (cell1 (new_at rfl))).mono ?_; rintro e w2 ⟨rfl, ⟨nd, rfl⟩⟩; rw [HV.out]))
   go_roundw
   case rel => exact ⟨x + 1, congrArg _ (wS (by have := HLT.out; have := HLN.out; omega)), ⟨HLT.out⟩, ⟨by rw [okTo, HA.out, ← HAA.out, HV.out]; rfl⟩, ⟨pw_below_drewN (below_alloc HB.out _) _⟩⟩
   case measure => have := HLT.out; have := HLN.out; rw [wS (by omega)]; simp [intOf]; omega
def numsTo (X : Nat → Nat → Bool) (cr : Bool) (n : Nat) : Nat → List Int
 | 0 => List.replicate (n + 1) 0
 | s + 1 => bump X cr (setTo s n) (numsTo X cr n s)
def setsV (w : List Int) (cr : Bool) : List Int := numsTo (crossB w) cr (w.length / 2) (2 ^ (w.length / 2))
def impl_setNumbers.f (l0 : List Int) (a1 : Bool) : Option (List Int) := if isW l0 = true then some (setsV l0 a1) else none
theorem bump_len (X : Nat → Nat → Bool) (cr : Bool) (l : List Nat) (out : List Int) : (bump X cr l out).length = out.length := by
 unfold bump; split
 ·rw [List.length_set]
 ·rfl
theorem numsTo_len (X : Nat → Nat → Bool) (cr : Bool) (n : Nat) : ∀ s, (numsTo X cr n s).length = n + 1
 | 0 => List.length_replicate
 | s + 1 => by rw [numsTo, bump_len, numsTo_len X cr n s]
theorem setTo_lt {s i x : Nat} (h : x ∈ setTo s i) : x < i := List.mem_range.1 (List.mem_filter.1 h).1
set_option maxHeartbeats 8000000 in
set_option maxRecDepth 100000 in
theorem impl_setNumbers.calls (A0 : Option Addr) (c0 : Nat) (l0 : List Int) (a1 : Bool) (r : List Int) (w : World) (hr0 : Kd.C (Kd.int .i64) w A0 l0.length l0) (hc0 : l0.length ≤ c0) (h : impl_setNumbers.f l0 a1 = some r) :
  Calls Tryz.prog 68 #[.slice A0 l0.length c0, .bool a1] w fun e w' => ∃ v0_ : Value, e = .returned v0_ ∧ Kd.R (Kd.int .i64) 2 w' w.heap.size (fun _ => True) v0_ r ∧ Below w.heap.size w w' := by
 have hf : isW l0 = true ∧ r = setsV l0 a1 := by
  unfold impl_setNumbers.f at h
  by_cases hk : isW l0 = true
  rotate_left
  ·rw [if_neg hk] at h; exact absurd h (by simp)
  rw [if_pos hk] at h; exact ⟨hk, (Option.some.inj h).symm⟩
 have hw := (isW_iff l0).1 hf.1
 have hle := hw.le
 have HW := Aside0.mk hw
 have HRR := Aside0.mk hf.2
 obtain ⟨n, hn⟩ : ∃ n, n = l0.length / 2 := ⟨_, rfl⟩
 have hch : impl_chords.f l0 = some (n : Int) := by rw [hn]; exact chords_f l0 hle
 have CH := Aside0.mk hch
 have HN := Aside0.mk hn
 have hn6 : n ≤ 6 := by omega
 have hmk := make_ints (P := Tryz.prog) Tryz.underlying37 info2 ((n : Int) + 1) (n + 1) (by omega) (by omega)
 have HR := Aside0.mk hr0
 have HC := Aside0.mk hc0
 have HLE := Aside0.mk hle
 clear hr0 hc0 h hf hw hle hch hn
 have hmf : ∀ (fn : Fn) (first cap : Array Value) (w : World), (Instr.makeFunc fn first cap).run Tryz.prog w = .ok (.func fn first cap) w := fun _ _ _ _ => rfl
 go_enter Tryz.func68, Tryz.ntmps68
 go_wp2_with (first | (go_at_call 115; refine (impl_chords.calls A0 c0 l0 _ _ (by repeat (first | exact HR.out | refine Kd.C_alloc ?_ _ | refine Kd.C_drewN ?_ _)) HC.out CH.out).mono ?_; rintro e w' ⟨rfl, ⟨nd, rfl⟩⟩))
 obtain ⟨w0, hw0⟩ : ∃ w0, w0 = (((((w.alloc (.cells #[.slice A0 l0.length c0] 37 (0, 0))).alloc (.cells #[.bool a1] 4 (0, 0))).drewN nd).alloc (.cells (nums .i64 (List.replicate (n + 1) 0)).toArray 2 (0, 0))).alloc (.cells #[.slice (some ⟨w.heap.size + 1 + 1, 0, none⟩) (n + 1) (n + 1)] 37 (0, 0))) := ⟨_, rfl⟩
 have hE : SEnv w0 l0 A0 c0 n a1 w.heap.size (w.heap.size + 1) (w.heap.size + 1 + 1 + 1) (w.heap.size + 1 + 1) := by
  rw [hw0]
  exact ⟨cell1 (by repeat (first | exact new_at (by simp) | refine blk_alloc ?_ _ | refine blk_drewN ?_ _)), cell1 (by repeat (first | exact new_at (by simp) | refine blk_alloc ?_ _ | refine blk_drewN ?_ _)), cell1 (by repeat (first | exact new_at (by simp) | refine blk_alloc ?_ _ | refine blk_drewN ?_ _)), by omega, by omega, by omega, by repeat (first | exact Kd.F_mono (F_of_C HR.out) (fun k hk => by omega) | refine Kd.F_alloc ?_ _ | refine Kd.F_drewN ?_ _), by simp⟩
 have hV : w0.heap[w.heap.size + 1 + 1]? = some (.cells (nums .i64 (numsTo (crossB l0) a1 n 0)).toArray 2 (0, 0)) := by
  rw [hw0]
  repeat (first | exact new_at (by simp) | refine blk_alloc ?_ _ | refine blk_drewN ?_ _)
 have hB0 : Below w.heap.size w w0 := by
  rw [hw0]
  repeat (first | exact Below.refl _ _ | apply below_alloc | apply pw_below_drewN)
 rw [← hw0]
 have HE := Aside0.mk hE
 have HV := Aside0.mk hV
 have HB0 := Aside0.mk hB0
 clear hw0 hE hV hB0 hmk
 refine (sets_setNumbers l0 A0 c0 n (2 ^ n) HN.out HLE.out rfl HC.out w.heap.size (w.heap.size + 1) (w.heap.size + 1 + 1 + 1) (w.heap.size + 1 + 1) (numsTo (crossB l0) a1 n) w0 HE.out.rd HE.out.lt (fun s A c w1 hs hg hh hF hc => ?_) HV.out).mono ?_
 ·exact setNumbers_1 l0 HW.out A0 c0 n a1 _ _ _ _ HN.out HC.out (setTo s n) (fun b hb => setTo_lt hb) (setTo_le s n) A c _ w1 (HE.out.grown hg) (numsTo_len _ _ _ _) hh hF hc
 rintro e w2 ⟨rfl, hg, hr⟩
 have hE2 := HE.out.grown hg
 have h2 := hE2.co
 have HG := Aside0.mk hg
 have HH := Aside0.mk hr
 clear hg hr hE2
 go_wp2
 go_ret
 refine ⟨_, rfl, ?_, Go.Proofs.YtcnekpdoldljgaaGreat.Mem.below_grown HB0.out HG.out (by omega)⟩
 have h3 := HH.out
 rw [HRR.out, setsV, ← HN.out]
 exact R_of_block h3 (by rw [numsTo_len]) (by unfold maxLen; omega) (by omega)
end Go.Proofs.YtcnekpdoldljgaaGreat.F
end
section
namespace Go.Proofs.YtcnekpdoldljgaaGreat.F
open Go.RowKit Go.Proofs.YtcnekpdoldljgaaGreatW.PrintWords Go.Proofs.YtcnekpdoldljgaaGreatW.PrintLast Go.Proofs.YtcnekpdoldljgaaGreatW.PrintMore
attribute [local go_sem] max2_int min2_int max_two min_two max_three min_three max_four min_four   
set_option linter.unusedVariables false
set_option linter.unusedSimpArgs false
def impl_IndependentNumbers_1.f (l0 : List Int) : Option (List Int) := impl_setNumbers.f l0 false
set_option maxHeartbeats 8000000 in
theorem impl_IndependentNumbers_1.calls (A0 : Option Addr) (c0 : Nat) (l0 : List Int) (r : List Int) (w : World) (hr0 : Kd.C (Kd.int .i64) w A0 l0.length l0) (hc0 : l0.length ≤ c0) (h : impl_IndependentNumbers_1.f l0 = some r) :
    Calls Tryz.prog 67 #[.slice A0 l0.length c0] w fun e w' => ∃ v0_ : Value, e = .returned v0_ ∧ Kd.R (Kd.int .i64) 2 w' w.heap.size (fun _ => True) v0_ r ∧ Below w.heap.size w w' := by
  have HR := Aside0.mk hr0
  have HC := Aside0.mk hc0
  have HF := Aside0.mk h
  clear hr0 hc0 h
  go_enter Tryz.func67, Tryz.ntmps67
  go_wp2_with (first | (go_at_call 68; refine (impl_setNumbers.calls A0 c0 l0 false r _ HR.out HC.out HF.out).mono ?_; rintro e w2 ⟨v0, rfl, ho2, hb2⟩; have HO2 := Aside0.mk ho2; have HB2 := Aside0.mk hb2; clear ho2 hb2))
  go_ret
  exact ⟨_, rfl, HO2.out, HB2.out⟩
def impl_IndependentNumbers.f (k : Nat) (l0 : List Int) : Option (List Int × Int) := (impl_IsWord.f k l0).bind fun t => (if t = true then ((impl_IndependentNumbers_1.f l0).bind fun t2 => (some (t2, 0))) else (some ([], 1)))
theorem impl_IndependentNumbers.mono : ∀ a0 k, LeO (impl_IndependentNumbers.f k a0) (impl_IndependentNumbers.f (k + 1) a0) := fun _ _ => LeO.bind (impl_IsWord.mono _ _) (fun _ => LeO.ite (LeO.bind (LeO.refl _) fun _ => LeO.refl _) (LeO.refl _))
set_option maxHeartbeats 8000000 in
set_option maxRecDepth 100000 in
theorem changedWord_IndependentNumbers.calls (k : Nat) (A0 : Option Addr) (c0 : Nat) (l0 : List Int) (r1 : List Int) (r2 : Int) (w : World) (hr0 : Kd.C (Kd.int .i64) w A0 l0.length l0) (hc0 : l0.length ≤ c0) (h : impl_IndependentNumbers.f k l0 = some (r1, r2)) :
    Calls Tryz.prog 56 #[.slice A0 l0.length c0, .func (.func 67) #[] #[]] w fun e w' => ∃ v0_ : Value, e = .returned (.tuple #[v0_, .int .i64 r2]) ∧ Kd.R (Kd.int .i64) 2 w' w.heap.size (fun _ => True) v0_ r1 ∧ Below w.heap.size w w' := by
  have HR := Aside0.mk hr0
  have HC := Aside0.mk hc0
  clear hr0 hc0
  unfold impl_IndependentNumbers.f at h
  obtain ⟨t, ht, h⟩ := Option.bind_eq_some_iff.1 h
  have HT := Aside0.mk ht
  clear ht
  cases t with
  | true =>
    rw [if_pos rfl] at h
    obtain ⟨t2, ht2, h⟩ := Option.bind_eq_some_iff.1 h
    have HG := Aside0.mk ht2
    simp only [Option.some.injEq, Prod.mk.injEq] at h
    obtain ⟨rfl, rfl⟩ := h
    clear ht2
    go_enter Tryz.func56, Tryz.ntmps56
    go_wp2_with (first
      | (go_at_call 61; refine (impl_IsWord.calls k A0 c0 l0 true _ HR.out HC.out HT.out).mono ?_; rintro e w1 ⟨rfl, hb1⟩; have HB1 := Aside0.mk hb1; clear hb1)
      | (go_at_call 67; refine (impl_IndependentNumbers_1.calls A0 c0 l0 t2 _ (Kd.C_below HR.out HB1.out) HC.out HG.out).mono ?_; rintro e w2 ⟨v0, rfl, ho2, hb2⟩; have HO2 := Aside0.mk ho2; have HB2 := Aside0.mk hb2; clear ho2 hb2))
    go_ret2
    exact ⟨_, rfl, Kd.R_lower HO2.out (below_size HB1.out), below_step HB1.out HB2.out⟩
  | false =>
    rw [if_neg (by simp)] at h
    simp only [Option.some.injEq, Prod.mk.injEq] at h
    obtain ⟨rfl, rfl⟩ := h
    go_enter Tryz.func56, Tryz.ntmps56
    go_wp2_with (first
      | (go_at_call 61; refine (impl_IsWord.calls k A0 c0 l0 false _ HR.out HC.out HT.out).mono ?_; rintro e w1 ⟨rfl, hb1⟩; have HB1 := Aside0.mk hb1; clear hb1))
    go_ret2
    exact ⟨_, rfl, Kd.R_nil _ _ _ _ _, HB1.out⟩
set_option maxHeartbeats 8000000 in
set_option maxRecDepth 100000 in
theorem impl_IndependentNumbers.calls (k : Nat) (A0 : Option Addr) (c0 : Nat) (l0 : List Int) (r1 : List Int) (r2 : Int) (w : World) (hr0 : Kd.C (Kd.int .i64) w A0 l0.length l0) (hc0 : l0.length ≤ c0) (h : impl_IndependentNumbers.f k l0 = some (r1, r2)) :
    Calls Tryz.prog 22 #[.slice A0 l0.length c0] w fun e w' => ∃ v0_ : Value, e = .returned (.tuple #[v0_, .int .i64 r2]) ∧ Kd.R (Kd.int .i64) 2 w' w.heap.size (fun _ => True) v0_ r1 ∧ Below w.heap.size w w' := by
  have HR := Aside0.mk hr0
  have HC := Aside0.mk hc0
  have HF := Aside0.mk h
  clear hr0 hc0 h
  go_enter Tryz.func22, Tryz.ntmps22
  go_wp2_with (first
    | (go_at_call 56; refine (changedWord_IndependentNumbers.calls k A0 c0 l0 r1 r2 _ HR.out HC.out HF.out).mono ?_; rintro e w2 ⟨v0, rfl, ho2, hb2⟩; have HO2 := Aside0.mk ho2; have HB2 := Aside0.mk hb2; clear ho2 hb2))
  go_ret2
  exact ⟨_, rfl, HO2.out, HB2.out⟩
end Go.Proofs.YtcnekpdoldljgaaGreat.F
end
section
namespace Go.Proofs.YtcnekpdoldljgaaGreat.F
open Go.RowKit Go.Proofs.YtcnekpdoldljgaaGreatW.PrintWords Go.Proofs.YtcnekpdoldljgaaGreatW.PrintLast Go.Proofs.YtcnekpdoldljgaaGreatW.PrintMore
attribute [local go_sem] max2_int min2_int max_two min_two max_three min_three max_four min_four   
set_option linter.unusedVariables false
set_option linter.unusedSimpArgs false
mutual
def spec_l10Sets.l0 : Nat → Int → Int → List (List Int) → List Int → Int → Option (List Int)
 | 0, _, _, _, _, _ => none
 | k + 1, x1, x5, x6, x7, x8 => if 0 ≤ (IntKind.u64.wrap (x5)) then (if x8 < (shl .i64 1 (IntKind.u64.wrap (x5))) then (spec_l10Sets.l1 k x1 x5 x6 x7 x8 true 0 0) else (some x7)) else (none)
def spec_l10Sets.l1 : Nat → Int → Int → List (List Int) → List Int → Int → Bool → Int → Int → Option (List Int)
 | 0, _, _, _, _, _, _, _, _ => none
 | k + 1, x1, x5, x6, x7, x8, x9, x10, x11 => if x11 < x5 then (if 0 ≤ (IntKind.u64.wrap (x11)) then (if (Go.bits .and .i64 (shr .i64 x8 (IntKind.u64.wrap (x11))) 1) = 0 then (spec_l10Sets.l1 k x1 x5 x6 x7 x8 x9 x10 (wrap64 (x11 + 1))) else (spec_l10Sets.l2 k x1 x5 x6 x7 x8 x9 (wrap64 (x10 + 1)) x11 0)) else (none)) else (if x9 = true then (if 0 ≤ x10 then (if x10 < (x7.length : Int) then (spec_l10Sets.l0 k x1 x5 x6 (x7.set (x10 : Int).toNat (wrap64 ((rd x7 x10) + 1))) (wrap64 (x8 + 1))) else (none)) else (none)) else (spec_l10Sets.l0 k x1 x5 x6 x7 (wrap64 (x8 + 1))))
def spec_l10Sets.l2 : Nat → Int → Int → List (List Int) → List Int → Int → Bool → Int → Int → Int → Option (List Int)
 | 0, _, _, _, _, _, _, _, _, _ => none
 | k + 1, x1, x5, x6, x7, x8, x9, x10, x11, x12 => if x12 < x11 then (if x9 = true then (if 0 ≤ (IntKind.u64.wrap (x12)) then (if (Go.bits .and .i64 (shr .i64 x8 (IntKind.u64.wrap (x12))) 1) = 0 then (spec_l10Sets.l2 k x1 x5 x6 x7 x8 true x10 x11 (wrap64 (x12 + 1))) else (if 0 ≤ x11 then (if x11 < (x6.length : Int) then (if 0 ≤ x12 then (if x12 < ((rd_L1 x6 x11).length : Int) then (spec_l10Sets.l2 k x1 x5 x6 x7 x8 ((rd (rd_L1 x6 x11) x12) == x1) x10 x11 (wrap64 (x12 + 1))) else (none)) else (none)) else (none)) else (none))) else (none)) else (spec_l10Sets.l2 k x1 x5 x6 x7 x8 false x10 x11 (wrap64 (x12 + 1)))) else (spec_l10Sets.l1 k x1 x5 x6 x7 x8 x9 x10 (wrap64 (x11 + 1)))
end
def spec_l10Sets.f (k : Nat) (l0 : List Int) (a1 : Int) : Option (List Int) := (spec_l01Cross.f k l0).bind fun t691001 => (if 0 ≤ (wrap64 ((wrap64 ((l0.length : Int) / 2)) + 1)) then (if (wrap64 ((wrap64 ((l0.length : Int) / 2)) + 1) : Int).toNat ≤ 35184372088832 then (spec_l10Sets.l0 k a1 (wrap64 ((l0.length : Int) / 2)) t691001 (List.replicate (wrap64 ((wrap64 ((l0.length : Int) / 2)) + 1) : Int).toNat 0) 0) else (none)) else (none))
theorem spec_l10Sets.mono_l : ∀ k, (∀ y0 y1 y2 y3 y4, LeO (spec_l10Sets.l0 k y0 y1 y2 y3 y4) (spec_l10Sets.l0 (k + 1) y0 y1 y2 y3 y4)) ∧ (∀ y0 y1 y2 y3 y4 y5 y6 y7, LeO (spec_l10Sets.l1 k y0 y1 y2 y3 y4 y5 y6 y7) (spec_l10Sets.l1 (k + 1) y0 y1 y2 y3 y4 y5 y6 y7)) ∧ (∀ y0 y1 y2 y3 y4 y5 y6 y7 y8, LeO (spec_l10Sets.l2 k y0 y1 y2 y3 y4 y5 y6 y7 y8) (spec_l10Sets.l2 (k + 1) y0 y1 y2 y3 y4 y5 y6 y7 y8))
 | 0 => ⟨fun _ _ _ _ _ r h => by simp [spec_l10Sets.l0] at h, fun _ _ _ _ _ _ _ _ r h => by simp [spec_l10Sets.l1] at h, fun _ _ _ _ _ _ _ _ _ r h => by simp [spec_l10Sets.l2] at h⟩
 | k + 1 => by
  obtain ⟨ih0, ih1, ih2⟩ := spec_l10Sets.mono_l k
  refine ⟨?_, ?_, ?_⟩
  ·intro y0 y1 y2 y3 y4
   unfold spec_l10Sets.l0
   repeat' first
   | (with_reducible exact ih0 _ _ _ _ _)
   | (with_reducible exact ih1 _ _ _ _ _ _ _ _)
   | (with_reducible exact ih2 _ _ _ _ _ _ _ _ _)
   | (with_reducible exact spec_l01Cross.mono _ _)
   | (with_reducible exact LeO.refl _)
   | (with_reducible exact LeO.none _)
   | (with_reducible refine LeO.ite ?_ ?_)
   | (with_reducible refine LeO.bind ?_ (fun _ => ?_))
   | exact ih0 _ _ _ _ _
   | exact ih1 _ _ _ _ _ _ _ _
   | exact ih2 _ _ _ _ _ _ _ _ _
   | exact spec_l01Cross.mono _ _
   | exact LeO.none _
   | refine LeO.ite ?_ ?_
   | refine LeO.bind ?_ (fun _ => ?_)
  ·intro y0 y1 y2 y3 y4 y5 y6 y7
   unfold spec_l10Sets.l1
   repeat' first
   | (with_reducible exact ih0 _ _ _ _ _)
   | (with_reducible exact ih1 _ _ _ _ _ _ _ _)
   | (with_reducible exact ih2 _ _ _ _ _ _ _ _ _)
   | (with_reducible exact spec_l01Cross.mono _ _)
   | (with_reducible exact LeO.refl _)
   | (with_reducible exact LeO.none _)
   | (with_reducible refine LeO.ite ?_ ?_)
   | (with_reducible refine LeO.bind ?_ (fun _ => ?_))
   | exact ih0 _ _ _ _ _
   | exact ih1 _ _ _ _ _ _ _ _
   | exact ih2 _ _ _ _ _ _ _ _ _
   | exact spec_l01Cross.mono _ _
   | exact LeO.none _
   | refine LeO.ite ?_ ?_
   | refine LeO.bind ?_ (fun _ => ?_)
  ·intro y0 y1 y2 y3 y4 y5 y6 y7 y8
   unfold spec_l10Sets.l2
   repeat' first
   | (with_reducible exact ih0 _ _ _ _ _)
   | (with_reducible exact ih1 _ _ _ _ _ _ _ _)
   | (with_reducible exact ih2 _ _ _ _ _ _ _ _ _)
   | (with_reducible exact spec_l01Cross.mono _ _)
   | (with_reducible exact LeO.refl _)
   | (with_reducible exact LeO.none _)
   | (with_reducible refine LeO.ite ?_ ?_)
   | (with_reducible refine LeO.bind ?_ (fun _ => ?_))
   | exact ih0 _ _ _ _ _
   | exact ih1 _ _ _ _ _ _ _ _
   | exact ih2 _ _ _ _ _ _ _ _ _
   | exact spec_l01Cross.mono _ _
   | exact LeO.none _
   | refine LeO.ite ?_ ?_
   | refine LeO.bind ?_ (fun _ => ?_)
theorem spec_l10Sets.mono : ∀ a0 a1 k, LeO (spec_l10Sets.f k a0 a1) (spec_l10Sets.f (k + 1) a0 a1) := by
 intro a0 a1 k
 obtain ⟨ih0, ih1, ih2⟩ := spec_l10Sets.mono_l k
 unfold spec_l10Sets.f
 repeat' first
   | (with_reducible exact ih0 _ _ _ _ _)
   | (with_reducible exact ih1 _ _ _ _ _ _ _ _)
   | (with_reducible exact ih2 _ _ _ _ _ _ _ _ _)
   | (with_reducible exact spec_l01Cross.mono _ _)
   | (with_reducible exact LeO.refl _)
   | (with_reducible exact LeO.none _)
   | (with_reducible refine LeO.ite ?_ ?_)
   | (with_reducible refine LeO.bind ?_ (fun _ => ?_))
   | exact ih0 _ _ _ _ _
   | exact ih1 _ _ _ _ _ _ _ _
   | exact ih2 _ _ _ _ _ _ _ _ _
   | exact spec_l01Cross.mono _ _
   | exact LeO.none _
   | refine LeO.ite ?_ ?_
   | refine LeO.bind ?_ (fun _ => ?_)
set_option maxHeartbeats 8000000 in
set_option maxRecDepth 100000 in
theorem spec_l10Sets.calls (k : Nat) (A0 : Option Addr) (c0 : Nat) (l0 : List Int) (a1 : Int) (r : List Int) (w : World) (hr0 : Kd.C (Kd.int .i64) w A0 l0.length l0) (hc0 : l0.length ≤ c0) (h : spec_l10Sets.f k l0 a1 = some r) :
  Calls Tryz.prog 69 #[.slice A0 l0.length c0, .int .i64 a1] w fun e w' => ∃ v0_ : Value, e = .returned (v0_) ∧ Kd.R (Kd.int .i64) 2 w' w.heap.size (fun _ => True) v0_ r ∧ Below w.heap.size w w' := by
 have HR0 := Aside0.mk hr0
 have HC0 := Aside0.mk hc0
 clear hr0 hc0
 have HB := Aside0.mk (Below.refl w.heap.size w)
 have H : ((spec_l01Cross.f k l0).bind fun t691001 => (if 0 ≤ (wrap64 ((wrap64 ((l0.length : Int) / 2)) + 1)) then (if (wrap64 ((wrap64 ((l0.length : Int) / 2)) + 1) : Int).toNat ≤ 35184372088832 then (spec_l10Sets.l0 k a1 (wrap64 ((l0.length : Int) / 2)) t691001 (List.replicate (wrap64 ((wrap64 ((l0.length : Int) / 2)) + 1) : Int).toNat 0) 0) else (none)) else (none))) = some r := h
 clear h
 replace H := Option.bind_eq_some_iff.mp H
 obtain ⟨t691001, A30, H⟩ := H
 replace H : (if 0 ≤ (wrap64 ((wrap64 ((l0.length : Int) / 2)) + 1)) then (if (wrap64 ((wrap64 ((l0.length : Int) / 2)) + 1) : Int).toNat ≤ 35184372088832 then (spec_l10Sets.l0 k a1 (wrap64 ((l0.length : Int) / 2)) t691001 (List.replicate (wrap64 ((wrap64 ((l0.length : Int) / 2)) + 1) : Int).toNat 0) 0) else (none)) else (none)) = some r := H
 have A3 := Aside0.mk A30
 clear A30
 obtain ⟨ji4, hji4⟩ : ∃ j_ : Int, (wrap64 ((wrap64 ((l0.length : Int) / 2)) + 1)) = j_ := ⟨_, rfl⟩
 replace H : (if 0 ≤ (ji4) then (if (ji4 : Int).toNat ≤ 35184372088832 then (spec_l10Sets.l0 k a1 (wrap64 ((l0.length : Int) / 2)) t691001 (List.replicate (ji4 : Int).toNat 0) 0) else (none)) else (none)) = some r := by first | (rw [hji4] at H; exact H) | (simp only [hji4] at H ⊢; exact H)
 (try rw [hji4] at A3)
 have hji4w : (IntKind.i64.wrap ((wrap64 ((l0.length : Int) / 2)) + 1)) = ji4 := (i64_w _).trans hji4
 by_cases c5 : 0 ≤ (ji4)
 rotate_left
 ·rw [if_neg c5] at H
  exact absurd H (by simp)
 rw [if_pos c5] at H
 have c5b0 := eq_true c5
 have c5b1 : decide (0 ≤ (ji4)) = true := decide_eq_true c5
 clear c5
 by_cases c6 : (ji4 : Int).toNat ≤ 35184372088832
 rotate_left
 ·rw [if_neg c6] at H
  exact absurd H (by simp)
 rw [if_pos c6] at H
 have c6b0 := eq_true c6
 have c6b1 : decide ((ji4 : Int).toNat ≤ 35184372088832) = true := decide_eq_true c6
 clear c6
 obtain ⟨y691004, hy691004⟩ : ∃ y_ : List Int, y_ = (List.replicate (ji4 : Int).toNat 0) := ⟨_, rfl⟩
 replace H : (spec_l10Sets.l0 k a1 (wrap64 ((l0.length : Int) / 2)) t691001 y691004 0) = some r := by first | (rw [hy691004]; with_reducible exact H) | (have H2_ := (Option.bind_some _ _).symm.trans H; rw [hy691004]; with_reducible exact H2_) | (have H2_ := (Option.bind_some _ _).symm.trans H; with_reducible exact H2_) | with_reducible exact H | (rw [hy691004]; exact H) | exact H
 have Ny691004 := Aside0.mk hy691004
 clear hy691004
 have H' := Aside0.mk H
 clear H
 go_enter Tryz.func69, Tryz.ntmps69
 go_wp2_with (first | ((with_reducible refine gate_callee (f := 73) rfl ?_); refine goesL_ (some 17) rfl rfl Tryz.func73 (by kernel_rfl) rfl #[.slice A0 l0.length c0] rfl (by (try simp only [List.map_toArray, List.map_cons, List.map_nil]); first | done | rfl | (simp only [List.length_drop, List.length_take]; rfl)) ?_; (with_reducible refine (spec_l01Cross.calls k _ _ l0 t691001 _ ?side1 ?side2 A3.out).mono ?_); (case side1 => repeat (first | exact HR0.out | (with_reducible refine Kd.C_alloc ?_ _) | (with_reducible refine Kd.C_drewN ?_ _) | (with_reducible refine Kd.C_drew ?_))); (case side2 => exact HC0.out); rintro e w7 ⟨v691002, rfl, ho0, hb⟩; refine ⟨_, rfl, ?_⟩; have n0_ := Aside0.mk (Kd.S_lower ho0 (below_size (by repeat (first | (with_reducible first | exact HB.out | apply below_alloc | apply pw_below_drewN | apply below_drew1) | exact HB.out)))); have n1_ := Aside0.mk (below_step (by repeat (first | (with_reducible first | exact HB.out | apply below_alloc | apply pw_below_drewN | apply below_drew1) | exact HB.out)) hb); clear HB; have HO691003 := n0_; have HB := n1_; clear n0_ n1_; (try clear hb); (try clear hb2); (try clear hk); (try clear hi); (try clear ho0)) | ((with_reducible refine gate_dst (N := 20) rfl ?_); refine Kd.R_make (Kd.int .i64) _ 2 rfl (N := 20) rfl 37 _ _ rfl ji4 rfl rfl Tryz.underlying37 (.int .i64 0) 8 info2 rfl (by decide) (by omega) 0 (ok := fun _ => True) (okp := fun _ => True) rfl (fun _ hk => hk) trivial (of_decide_eq_true (by first | (with_reducible assumption) | assumption)) (Nat.le_trans (Nat.mul_le_mul_right _ (of_decide_eq_true (by first | (with_reducible assumption) | assumption) : ji4.toNat ≤ 35184372088832)) (by omega)) (Below.refl _ _) (Nat.le_refl _) ?_; intro v691005 w8 ho9 hb hg_ hnew_; clear hg_ hnew_; (first | rw [← Ny691004.out] at ho9 | (simp only [Int.reduceToNat] at ho9; rw [← Ny691004.out] at ho9)); have n0_ := Aside0.mk (Kd.S_elder' (by (with_reducible repeat (first | apply Kd.S_alloc | apply Kd.S_drewN | apply Kd.S_drew)); exact HO691003.out) (Kd.R_base ho9) hb); have n1_ := Aside0.mk (Kd.R_lower ho9 (below_size (by repeat (first | (with_reducible first | exact HB.out | apply below_alloc | apply pw_below_drewN | apply below_drew1) | exact HB.out)))); have n2_ := Aside0.mk (below_step (by repeat (first | (with_reducible first | exact HB.out | apply below_alloc | apply pw_below_drewN | apply below_drew1) | exact HB.out)) hb); clear HO691003; clear HB; have HO691003 := n0_; have HO691006 := n1_; have HB := n2_; clear n0_ n1_ n2_; clear hb ho9))
 go_loopg [8] k (fun kq v8 w' => ∃ (x7_1 : List Int) (x8_1 : Int), v8 = .int .i64 x8_1 ∧ Aside0 (spec_l10Sets.l0 kq a1 (wrap64 ((l0.length : Int) / 2)) t691001 x7_1 x8_1 = some r) ∧ Aside0 (kq ≤ k) ∧ Aside0 (Kd.S (Kd.slice 2 (Kd.int .i64)) 37 w' w.heap.size (fun k_ => some k_ ≠ (v691005 : Value).ownBlock) v691002 t691001) ∧ Aside0 (Kd.R (Kd.int .i64) 2 w' w.heap.size (fun _ => True) v691005 x7_1) ∧ Aside0 (Below w.heap.size w w'))
 case atStart => exact ⟨(y691004), (0), (by first | rfl | (simp; done) | (simp [*]; done)), H', ⟨Nat.le_refl _⟩, ⟨by (with_reducible repeat (first | apply Kd.S_alloc | apply Kd.S_drewN | apply Kd.S_drew)); exact Kd.S_mono HO691003.out (fun _ hk => hk.2)⟩, ⟨by (with_reducible repeat (first | apply Kd.R_alloc | apply Kd.R_drewN | apply Kd.R_drew)); exact HO691006.out⟩, ⟨by repeat (first | (with_reducible first | exact HB.out | apply below_alloc | apply pw_below_drewN | apply below_drew1) | exact HB.out)⟩⟩
 case round =>
  clear H'
  try clear p2
  try clear c5
  try clear c5b0
  try clear c5b1
  try clear c6
  try clear c6b0
  try clear c6b1
  try clear p6
  try clear c7
  obtain ⟨x7_1, x8_1, rfl, HA, HK1, HO_6, HO_7, HB⟩ := hrel
  cases gk with
  | zero => exact absurd HA.out (by simp [spec_l10Sets.l0])
  | succ k1 =>
   have H := HA.out
   clear HA
   simp only [spec_l10Sets.l0] at H
   obtain ⟨ji10, hji10⟩ : ∃ j_ : Int, (IntKind.u64.wrap ((wrap64 ((l0.length : Int) / 2)))) = j_ := ⟨_, rfl⟩
   replace H : (if 0 ≤ (ji10) then (if x8_1 < (shl .i64 1 (ji10)) then (spec_l10Sets.l1 k1 a1 (wrap64 ((l0.length : Int) / 2)) t691001 x7_1 x8_1 true 0 0) else (some x7_1)) else (none)) = some r := by first | (rw [hji10] at H; exact H) | (simp only [hji10] at H ⊢; exact H)
   by_cases c11 : 0 ≤ (ji10)
   rotate_left
   ·rw [if_neg c11] at H
    exact absurd H (by simp)
   rw [if_pos c11] at H
   have c11b0 := eq_true c11
   have c11b1 : decide (0 ≤ (ji10)) = true := decide_eq_true c11
   clear c11
   obtain ⟨ji12, hji12⟩ : ∃ j_ : Int, (shl .i64 1 (ji10)) = j_ := ⟨_, rfl⟩
   replace H : (if x8_1 < (ji12) then (spec_l10Sets.l1 k1 a1 (wrap64 ((l0.length : Int) / 2)) t691001 x7_1 x8_1 true 0 0) else (some x7_1)) = some r := by first | (rw [hji12] at H; exact H) | (simp only [hji12] at H ⊢; exact H)
   have hji12_ : (IntKind.i64.wrap (1 * 2 ^ min (ji10).toNat 64)) = ji12 := hji12
   have hji12z : (ji10) ≤ 64 → (IntKind.i64.wrap (1 * 2 ^ (ji10).toNat)) = ji12 := shl_small hji12
   have hji12u : (IntKind.i64.wrap (2 ^ min (ji10).toNat 64)) = ji12 := by have h_ := hji12_; rw [Int.one_mul] at h_; exact h_
   have hji12v : (ji10) ≤ 64 → (IntKind.i64.wrap (2 ^ (ji10).toNat)) = ji12 := fun hle_ => by have h_ := hji12z hle_; rw [Int.one_mul] at h_; exact h_
   have hji12y : (wrap64 (1 * 2 ^ min (ji10).toNat 64)) = ji12 := (i64_w _).symm.trans hji12_
   have hji12x : (ji10) ≤ 64 → (wrap64 (1 * 2 ^ (ji10).toNat)) = ji12 := fun h_ => (i64_w _).symm.trans (hji12z h_)
   by_cases c13 : x8_1 < (ji12)
   rotate_left
   ·rw [if_neg c13] at H
    have c13b0 : decide (x8_1 < (ji12)) = false := decide_eq_false c13
    clear c13
    obtain rfl := Option.some.inj H
    go_wp2
    go_ret
    exact ⟨_, by first | rfl | (simp [errW_none, errW_some] <;> rfl) | (simp only [← hji4, ← hji10, ← hji12]; first | rfl | (simp [errW_none, errW_some] <;> rfl)) | (simp [*, errW_none, errW_some] <;> rfl), by (with_reducible repeat (first | apply Kd.R_alloc | apply Kd.R_drewN | apply Kd.R_drew)); exact HO_7.out, by repeat (first | (with_reducible first | exact HB.out | apply below_alloc | apply pw_below_drewN | apply below_drew1) | exact HB.out)⟩
   rw [if_pos c13] at H
   have c13b0 : decide (x8_1 < (ji12)) = true := decide_eq_true c13
   clear c13
   have H' := Aside0.mk H
   clear H
   go_wp2
   go_loopg [9, 10, 11] k1 (fun kq v9 v10 v11 w' => ∃ (x9_2 : Bool) (x10_2 : Int) (x11_2 : Int), v9 = .bool x9_2 ∧ v10 = .int .i64 x10_2 ∧ v11 = .int .i64 x11_2 ∧ Aside0 (spec_l10Sets.l1 kq a1 (wrap64 ((l0.length : Int) / 2)) t691001 x7_1 x8_1 x9_2 x10_2 x11_2 = some r) ∧ Aside0 (kq ≤ k1) ∧ Aside0 (Kd.S (Kd.slice 2 (Kd.int .i64)) 37 w' w.heap.size (fun k_ => some k_ ≠ (v691005 : Value).ownBlock) v691002 t691001) ∧ Aside0 (Kd.R (Kd.int .i64) 2 w' w.heap.size (fun _ => True) v691005 x7_1) ∧ Aside0 (Below w.heap.size w w'))
   case atStart => exact ⟨(true), (0), (0), (by first | rfl | (simp; done) | (simp [*]; done)), (by first | rfl | (simp; done) | (simp [*]; done)), (by first | rfl | (simp; done) | (simp [*]; done)), H', ⟨Nat.le_refl _⟩, ⟨by (with_reducible repeat (first | apply Kd.S_alloc | apply Kd.S_drewN | apply Kd.S_drew)); exact HO_6.out⟩, ⟨by (with_reducible repeat (first | apply Kd.R_alloc | apply Kd.R_drewN | apply Kd.R_drew)); exact HO_7.out⟩, ⟨by repeat (first | (with_reducible first | exact HB.out | apply below_alloc | apply pw_below_drewN | apply below_drew1) | exact HB.out)⟩⟩
   case round =>
    clear H'
    try clear c1
    try clear p2
    try clear c5
    try clear c5b0
    try clear c5b1
    try clear c6
    try clear c6b0
    try clear c6b1
    try clear p6
    try clear c7
    try clear c11
    try clear c11b0
    try clear c11b1
    try clear c13
    try clear c13b0
    try clear p2
    try clear p6
    obtain ⟨x9_2, x10_2, x11_2, rfl, rfl, rfl, HA, HK2, HO_6, HO_7, HB⟩ := hrel
    cases gk with
    | zero => exact absurd HA.out (by simp [spec_l10Sets.l1])
    | succ k2 =>
     have H := HA.out
     clear HA
     simp only [spec_l10Sets.l1] at H
     by_cases c14 : x11_2 < (wrap64 ((l0.length : Int) / 2))
     rotate_left
     ·rw [if_neg c14] at H
      have c14b0 : decide (x11_2 < (wrap64 ((l0.length : Int) / 2))) = false := decide_eq_false c14
      clear c14
      by_cases c30 : x9_2 = true
      rotate_left
      ·replace c30 := Bool.eq_false_iff.mpr c30
       subst c30
       have H1 : (spec_l10Sets.l0 k2 a1 (wrap64 ((l0.length : Int) / 2)) t691001 x7_1 (wrap64 (x8_1 + 1))) = some r := by rw [if_neg (show ¬ (false = true) by decide)] at H; exact H
       clear H
       have H := H1
       clear H1
       have H' := Aside0.mk H
       clear H
       go_wp2
       go_roundg k2
       case measure => have := HK1.out; have := HK2.out; omega
       case rel => exact ⟨(x7_1), (wrap64 (x8_1 + 1)), (by first | rfl | (simp; done) | (simp [*]; done)), H', ⟨by have := HK1.out; have := HK2.out; omega⟩, ⟨by (with_reducible repeat (first | apply Kd.S_alloc | apply Kd.S_drewN | apply Kd.S_drew)); exact HO_6.out⟩, ⟨by (with_reducible repeat (first | apply Kd.R_alloc | apply Kd.R_drewN | apply Kd.R_drew)); exact HO_7.out⟩, ⟨by repeat (first | (with_reducible first | exact HB.out | apply below_alloc | apply pw_below_drewN | apply below_drew1) | exact HB.out)⟩⟩
      subst c30
      have H1 : (if 0 ≤ x10_2 then (if x10_2 < (x7_1.length : Int) then (spec_l10Sets.l0 k2 a1 (wrap64 ((l0.length : Int) / 2)) t691001 (x7_1.set (x10_2 : Int).toNat (wrap64 ((rd x7_1 x10_2) + 1))) (wrap64 (x8_1 + 1))) else (none)) else (none)) = some r := by rw [if_pos rfl] at H; exact H
      clear H
      have H := H1
      clear H1
      by_cases c31 : 0 ≤ x10_2
      rotate_left
      ·rw [if_neg c31] at H
       exact absurd H (by simp)
      rw [if_pos c31] at H
      have c31b0 : decide (0 ≤ x10_2) = true := decide_eq_true c31
      clear c31
      by_cases c32 : x10_2 < (x7_1.length : Int)
      rotate_left
      ·rw [if_neg c32] at H
       exact absurd H (by simp)
      rw [if_pos c32] at H
      have c32b0 : decide (x10_2 < (x7_1.length : Int)) = true := decide_eq_true c32
      clear c32
      obtain ⟨y691008, hy691008⟩ : ∃ y_ : List Int, y_ = (x7_1.set (x10_2 : Int).toNat (wrap64 ((rd x7_1 x10_2) + 1))) := ⟨_, rfl⟩
      replace H : (spec_l10Sets.l0 k2 a1 (wrap64 ((l0.length : Int) / 2)) t691001 y691008 (wrap64 (x8_1 + 1))) = some r := by first | (rw [hy691008]; with_reducible exact H) | (have H2_ := (Option.bind_some _ _).symm.trans H; rw [hy691008]; with_reducible exact H2_) | (have H2_ := (Option.bind_some _ _).symm.trans H; with_reducible exact H2_) | with_reducible exact H | (rw [hy691008]; exact H) | exact H
      have Ny691008 := Aside0.mk hy691008
      clear hy691008
      have H' := Aside0.mk H
      clear H
      obtain ⟨Ao34, co34, eo34⟩ := Kd.R_slice HO_7.out
      subst eo34
      have p691007 : 0 ≤ (x10_2 : Int) := of_decide_eq_true (by first | (with_reducible assumption) | assumption)
      have q691007 : x10_2 < (x7_1.length : Int) := of_decide_eq_true (by first | (with_reducible assumption) | assumption)
      obtain ⟨ad691007, e691007, hx691007_0⟩ := Kd.at_int (Kd.R_reads' HO_7.out).2.2 x10_2 p691007 q691007
      cases e691007
      replace p691007 := eq_true p691007
      replace q691007 := eq_true q691007
      have p33 : 0 ≤ (x10_2 : Int) := of_decide_eq_true (by first | (with_reducible assumption) | assumption)
      have q33 : (x10_2 : Int) < ((x7_1.length : Int) : Int) := of_decide_eq_true (by first | (with_reducible assumption) | assumption)
      obtain ⟨go33, co33, eo33, gb33, gl33, cl33, HG33⟩ := Kd.R_form HO_7.out (by omega)
      (first | cases eo33 | (injection eo33 with ea_ en_ ec_; (first | subst ea_ | (injection ea_ with ea_; subst ea_)); subst ec_; clear en_))
      have GB33 := Aside0.mk gb33
      have GG33 := Aside0.mk HG33
      clear gb33 gl33 HG33
      (first | simp only [add_plain] at hx691007_0 | skip)
      obtain ⟨hx33_0, hf33_0⟩ := Kd.R_celln 0 HO_7.out (x10_2 : Int) p33 q33
      replace p33 := eq_true p33
      replace q33 := eq_true q33
      have HP35 := Kd.R_putg HO_7.out (x10_2 : Int) (wrap64 ((rd x7_1 x10_2) + 1))
      go_wp2_with (first | ((with_reducible refine gate_store (t := 2) (p := 72) rfl ?_); refine store_event (t := 2) (p := 72) (v := ?vo_w36) (w1 := (wr.setCell ⟨go33, (x10_2 : Int).toNat, none⟩ (.int .i64 (wrap64 ((rd x7_1 x10_2) + 1))))) ?hg ?ho ?hn ?hr ?_; (case ho => rfl); (case hg => rfl); (case hn => rfl); (case hr => first | (go_simp; done) | (go_simp; rfl)); intro w36 hw; have hg : wr.grownBy w36 (some go33) := (by rw [hw]; exact HP35.2); have hp_ : Kd.R (Kd.int .i64) 2 w36 w.heap.size (fun _ => True) (.slice (some ⟨go33, 0, none⟩) x7_1.length co34) y691008 := (by rw [hw, Ny691008.out]; exact HP35.1); clear HP35; have n0_ := Aside0.mk (Kd.S_after (v := (.slice (some ⟨go33, 0, none⟩) x7_1.length co34)) (v1 := (.slice (some ⟨go33, 0, none⟩) x7_1.length co34)) (ok := (fun _ => True)) (by (with_reducible repeat (first | apply Kd.S_alloc | apply Kd.S_drewN | apply Kd.S_drew)); exact Kd.S_mono HO_6.out (fun _ hk => ⟨trivial, hk⟩)) hg (.inl rfl)); have n1_ := Aside0.mk (hp_); have n2_ := Aside0.mk ((by rw [hw]; exact below_set (HB.out) GB33.out : Below w.heap.size w w36)); clear HO_6; clear HO_7; clear HB; have HO_6 := n0_; have HO_7 := n1_; have HB := n2_; clear n0_ n1_ n2_; clear hg hw hp_))
      go_roundg k2
      case measure => have := HK1.out; have := HK2.out; omega
      case rel => exact ⟨(y691008), (wrap64 (x8_1 + 1)), (by first | rfl | (simp; done) | (simp [*]; done)), H', ⟨by have := HK1.out; have := HK2.out; omega⟩, ⟨by (with_reducible repeat (first | apply Kd.S_alloc | apply Kd.S_drewN | apply Kd.S_drew)); exact Kd.S_mono HO_6.out (fun _ hk => hk.2)⟩, ⟨by (with_reducible repeat (first | apply Kd.R_alloc | apply Kd.R_drewN | apply Kd.R_drew)); exact HO_7.out⟩, ⟨by repeat (first | (with_reducible first | exact HB.out | apply below_alloc | apply pw_below_drewN | apply below_drew1) | exact HB.out)⟩⟩
     rw [if_pos c14] at H
     have c14b0 : decide (x11_2 < (wrap64 ((l0.length : Int) / 2))) = true := decide_eq_true c14
     clear c14
     obtain ⟨ji15, hji15⟩ : ∃ j_ : Int, (IntKind.u64.wrap (x11_2)) = j_ := ⟨_, rfl⟩
     replace H : (if 0 ≤ (ji15) then (if (Go.bits .and .i64 (shr .i64 x8_1 (ji15)) 1) = 0 then (spec_l10Sets.l1 k2 a1 (wrap64 ((l0.length : Int) / 2)) t691001 x7_1 x8_1 x9_2 x10_2 (wrap64 (x11_2 + 1))) else (spec_l10Sets.l2 k2 a1 (wrap64 ((l0.length : Int) / 2)) t691001 x7_1 x8_1 x9_2 (wrap64 (x10_2 + 1)) x11_2 0)) else (none)) = some r := by first | (rw [hji15] at H; exact H) | (simp only [hji15] at H ⊢; exact H)
     by_cases c16 : 0 ≤ (ji15)
     rotate_left
     ·rw [if_neg c16] at H
      exact absurd H (by simp)
     rw [if_pos c16] at H
     have c16b0 := eq_true c16
     have c16b1 : decide (0 ≤ (ji15)) = true := decide_eq_true c16
     clear c16
     obtain ⟨ji17, hji17⟩ : ∃ j_ : Int, (shr .i64 x8_1 (ji15)) = j_ := ⟨_, rfl⟩
     replace H : (if (Go.bits .and .i64 (ji17) 1) = 0 then (spec_l10Sets.l1 k2 a1 (wrap64 ((l0.length : Int) / 2)) t691001 x7_1 x8_1 x9_2 x10_2 (wrap64 (x11_2 + 1))) else (spec_l10Sets.l2 k2 a1 (wrap64 ((l0.length : Int) / 2)) t691001 x7_1 x8_1 x9_2 (wrap64 (x10_2 + 1)) x11_2 0)) = some r := by first | (rw [hji17] at H; exact H) | (simp only [hji17] at H ⊢; exact H)
     have hji17_ : (x8_1 / 2 ^ min (ji15).toNat 64) = ji17 := hji17
     have hji17z : (ji15) ≤ 64 → (x8_1 / 2 ^ (ji15).toNat) = ji17 := shr_small hji17
     by_cases c18 : (Go.bits .and .i64 (ji17) 1) = 0
     ·rw [if_pos c18] at H
      have c18b0 : ((Go.bits .and .i64 (ji17) 1) == 0) = true := beq_iff_eq.mpr c18
      have c18b1 : ((Go.bits .and .i64 (ji17) 1) != 0) = false := bne_eq_false_iff_eq.mpr c18
      clear c18
      have H' := Aside0.mk H
      clear H
      go_wp2
      go_roundg k2
      case measure => have := HK1.out; have := HK2.out; omega
      case rel => exact ⟨(x9_2), (x10_2), (wrap64 (x11_2 + 1)), (by first | rfl | (simp; done) | (simp [*]; done)), (by first | rfl | (simp; done) | (simp [*]; done)), (by first | rfl | (simp; done) | (simp [*]; done)), H', ⟨by have := HK1.out; have := HK2.out; omega⟩, ⟨by (with_reducible repeat (first | apply Kd.S_alloc | apply Kd.S_drewN | apply Kd.S_drew)); exact HO_6.out⟩, ⟨by (with_reducible repeat (first | apply Kd.R_alloc | apply Kd.R_drewN | apply Kd.R_drew)); exact HO_7.out⟩, ⟨by repeat (first | (with_reducible first | exact HB.out | apply below_alloc | apply pw_below_drewN | apply below_drew1) | exact HB.out)⟩⟩
     rw [if_neg c18] at H
     have c18b0 : ((Go.bits .and .i64 (ji17) 1) == 0) = false := beq_eq_false_iff_ne.mpr c18
     have c18b1 : ((Go.bits .and .i64 (ji17) 1) != 0) = true := bne_iff_ne.mpr c18
     have H' := Aside0.mk H
     clear H
     go_wp2
     go_loopg [9, 12] k2 (fun kq v9 v12 w' => ∃ (x9_3 : Bool) (x12_3 : Int), v9 = .bool x9_3 ∧ v12 = .int .i64 x12_3 ∧ Aside0 (spec_l10Sets.l2 kq a1 (wrap64 ((l0.length : Int) / 2)) t691001 x7_1 x8_1 x9_3 (wrap64 (x10_2 + 1)) x11_2 x12_3 = some r) ∧ Aside0 (kq ≤ k2) ∧ Aside0 (Kd.S (Kd.slice 2 (Kd.int .i64)) 37 w' w.heap.size (fun k_ => some k_ ≠ (v691005 : Value).ownBlock) v691002 t691001) ∧ Aside0 (Kd.R (Kd.int .i64) 2 w' w.heap.size (fun _ => True) v691005 x7_1) ∧ Aside0 (Below w.heap.size w w'))
     case atStart => exact ⟨(x9_2), (0), (by first | rfl | (simp; done) | (simp [*]; done)), (by first | rfl | (simp; done) | (simp [*]; done)), H', ⟨Nat.le_refl _⟩, ⟨by (with_reducible repeat (first | apply Kd.S_alloc | apply Kd.S_drewN | apply Kd.S_drew)); exact HO_6.out⟩, ⟨by (with_reducible repeat (first | apply Kd.R_alloc | apply Kd.R_drewN | apply Kd.R_drew)); exact HO_7.out⟩, ⟨by repeat (first | (with_reducible first | exact HB.out | apply below_alloc | apply pw_below_drewN | apply below_drew1) | exact HB.out)⟩⟩
     case round =>
      clear H'
      try clear c1
      try clear p2
      try clear c5
      try clear c5b0
      try clear c5b1
      try clear c6
      try clear c6b0
      try clear c6b1
      try clear p6
      try clear c7
      try clear c11
      try clear c11b0
      try clear c11b1
      try clear c13
      try clear c13b0
      try clear c14
      try clear c14b0
      try clear c16
      try clear c16b0
      try clear c16b1
      try clear c18
      try clear c18b0
      try clear c18b1
      try clear p2
      try clear p6
      obtain ⟨x9_3, x12_3, rfl, rfl, HA, HK3, HO_6, HO_7, HB⟩ := hrel
      cases gk with
      | zero => exact absurd HA.out (by simp [spec_l10Sets.l2])
      | succ k3 =>
       have H := HA.out
       clear HA
       simp only [spec_l10Sets.l2] at H
       by_cases c19 : x12_3 < x11_2
       rotate_left
       ·rw [if_neg c19] at H
        have c19b0 : decide (x12_3 < x11_2) = false := decide_eq_false c19
        clear c19
        have H' := Aside0.mk H
        clear H
        go_wp2
        go_roundg k3
        case measure => have := HK1.out; have := HK2.out; have := HK3.out; omega
        case rel => exact ⟨(x9_3), ((wrap64 (x10_2 + 1))), (wrap64 (x11_2 + 1)), (by first | rfl | (simp; done) | (simp [*]; done)), (by first | rfl | (simp; done) | (simp [*]; done)), (by first | rfl | (simp; done) | (simp [*]; done)), H', ⟨by have := HK1.out; have := HK2.out; have := HK3.out; omega⟩, ⟨by (with_reducible repeat (first | apply Kd.S_alloc | apply Kd.S_drewN | apply Kd.S_drew)); exact HO_6.out⟩, ⟨by (with_reducible repeat (first | apply Kd.R_alloc | apply Kd.R_drewN | apply Kd.R_drew)); exact HO_7.out⟩, ⟨by repeat (first | (with_reducible first | exact HB.out | apply below_alloc | apply pw_below_drewN | apply below_drew1) | exact HB.out)⟩⟩
       rw [if_pos c19] at H
       have c19b0 : decide (x12_3 < x11_2) = true := decide_eq_true c19
       clear c19
       by_cases c20 : x9_3 = true
       rotate_left
       ·replace c20 := Bool.eq_false_iff.mpr c20
        subst c20
        have H1 : (spec_l10Sets.l2 k3 a1 (wrap64 ((l0.length : Int) / 2)) t691001 x7_1 x8_1 false (wrap64 (x10_2 + 1)) x11_2 (wrap64 (x12_3 + 1))) = some r := by rw [if_neg (show ¬ (false = true) by decide)] at H; exact H
        clear H
        have H := H1
        clear H1
        have H' := Aside0.mk H
        clear H
        go_wp2
        go_roundg k3
        case measure => have := HK1.out; have := HK2.out; have := HK3.out; omega
        case rel => exact ⟨(false), (wrap64 (x12_3 + 1)), (by first | rfl | (simp; done) | (simp [*]; done)), (by first | rfl | (simp; done) | (simp [*]; done)), H', ⟨by have := HK1.out; have := HK2.out; have := HK3.out; omega⟩, ⟨by (with_reducible repeat (first | apply Kd.S_alloc | apply Kd.S_drewN | apply Kd.S_drew)); exact HO_6.out⟩, ⟨by (with_reducible repeat (first | apply Kd.R_alloc | apply Kd.R_drewN | apply Kd.R_drew)); exact HO_7.out⟩, ⟨by repeat (first | (with_reducible first | exact HB.out | apply below_alloc | apply pw_below_drewN | apply below_drew1) | exact HB.out)⟩⟩
       subst c20
       have H1 : (if 0 ≤ (IntKind.u64.wrap (x12_3)) then (if (Go.bits .and .i64 (shr .i64 x8_1 (IntKind.u64.wrap (x12_3))) 1) = 0 then (spec_l10Sets.l2 k3 a1 (wrap64 ((l0.length : Int) / 2)) t691001 x7_1 x8_1 true (wrap64 (x10_2 + 1)) x11_2 (wrap64 (x12_3 + 1))) else (if 0 ≤ x11_2 then (if x11_2 < (t691001.length : Int) then (if 0 ≤ x12_3 then (if x12_3 < ((rd_L1 t691001 x11_2).length : Int) then (spec_l10Sets.l2 k3 a1 (wrap64 ((l0.length : Int) / 2)) t691001 x7_1 x8_1 ((rd (rd_L1 t691001 x11_2) x12_3) == a1) (wrap64 (x10_2 + 1)) x11_2 (wrap64 (x12_3 + 1))) else (none)) else (none)) else (none)) else (none))) else (none)) = some r := by rw [if_pos rfl] at H; exact H
       clear H
       have H := H1
       clear H1
       obtain ⟨ji21, hji21⟩ : ∃ j_ : Int, (IntKind.u64.wrap (x12_3)) = j_ := ⟨_, rfl⟩
       replace H : (if 0 ≤ (ji21) then (if (Go.bits .and .i64 (shr .i64 x8_1 (ji21)) 1) = 0 then (spec_l10Sets.l2 k3 a1 (wrap64 ((l0.length : Int) / 2)) t691001 x7_1 x8_1 true (wrap64 (x10_2 + 1)) x11_2 (wrap64 (x12_3 + 1))) else (if 0 ≤ x11_2 then (if x11_2 < (t691001.length : Int) then (if 0 ≤ x12_3 then (if x12_3 < ((rd_L1 t691001 x11_2).length : Int) then (spec_l10Sets.l2 k3 a1 (wrap64 ((l0.length : Int) / 2)) t691001 x7_1 x8_1 ((rd (rd_L1 t691001 x11_2) x12_3) == a1) (wrap64 (x10_2 + 1)) x11_2 (wrap64 (x12_3 + 1))) else (none)) else (none)) else (none)) else (none))) else (none)) = some r := by first | (rw [hji21] at H; exact H) | (simp only [hji21] at H ⊢; exact H)
       by_cases c22 : 0 ≤ (ji21)
       rotate_left
       ·rw [if_neg c22] at H
        exact absurd H (by simp)
       rw [if_pos c22] at H
       have c22b0 := eq_true c22
       have c22b1 : decide (0 ≤ (ji21)) = true := decide_eq_true c22
       clear c22
       obtain ⟨ji23, hji23⟩ : ∃ j_ : Int, (shr .i64 x8_1 (ji21)) = j_ := ⟨_, rfl⟩
       replace H : (if (Go.bits .and .i64 (ji23) 1) = 0 then (spec_l10Sets.l2 k3 a1 (wrap64 ((l0.length : Int) / 2)) t691001 x7_1 x8_1 true (wrap64 (x10_2 + 1)) x11_2 (wrap64 (x12_3 + 1))) else (if 0 ≤ x11_2 then (if x11_2 < (t691001.length : Int) then (if 0 ≤ x12_3 then (if x12_3 < ((rd_L1 t691001 x11_2).length : Int) then (spec_l10Sets.l2 k3 a1 (wrap64 ((l0.length : Int) / 2)) t691001 x7_1 x8_1 ((rd (rd_L1 t691001 x11_2) x12_3) == a1) (wrap64 (x10_2 + 1)) x11_2 (wrap64 (x12_3 + 1))) else (none)) else (none)) else (none)) else (none))) = some r := by first | (rw [hji23] at H; exact H) | (simp only [hji23] at H ⊢; exact H)
       have hji23_ : (x8_1 / 2 ^ min (ji21).toNat 64) = ji23 := hji23
       have hji23z : (ji21) ≤ 64 → (x8_1 / 2 ^ (ji21).toNat) = ji23 := shr_small hji23
       by_cases c24 : (Go.bits .and .i64 (ji23) 1) = 0
       ·rw [if_pos c24] at H
        have c24b0 : ((Go.bits .and .i64 (ji23) 1) == 0) = true := beq_iff_eq.mpr c24
        have c24b1 : ((Go.bits .and .i64 (ji23) 1) != 0) = false := bne_eq_false_iff_eq.mpr c24
        clear c24
        have H' := Aside0.mk H
        clear H
        go_wp2
        go_roundg k3
        case measure => have := HK1.out; have := HK2.out; have := HK3.out; omega
        case rel => exact ⟨(true), (wrap64 (x12_3 + 1)), (by first | rfl | (simp; done) | (simp [*]; done)), (by first | rfl | (simp; done) | (simp [*]; done)), H', ⟨by have := HK1.out; have := HK2.out; have := HK3.out; omega⟩, ⟨by (with_reducible repeat (first | apply Kd.S_alloc | apply Kd.S_drewN | apply Kd.S_drew)); exact HO_6.out⟩, ⟨by (with_reducible repeat (first | apply Kd.R_alloc | apply Kd.R_drewN | apply Kd.R_drew)); exact HO_7.out⟩, ⟨by repeat (first | (with_reducible first | exact HB.out | apply below_alloc | apply pw_below_drewN | apply below_drew1) | exact HB.out)⟩⟩
       rw [if_neg c24] at H
       have c24b0 : ((Go.bits .and .i64 (ji23) 1) == 0) = false := beq_eq_false_iff_ne.mpr c24
       have c24b1 : ((Go.bits .and .i64 (ji23) 1) != 0) = true := bne_iff_ne.mpr c24
       by_cases c25 : 0 ≤ x11_2
       rotate_left
       ·rw [if_neg c25] at H
        exact absurd H (by simp)
       rw [if_pos c25] at H
       have c25b0 : decide (0 ≤ x11_2) = true := decide_eq_true c25
       clear c25
       by_cases c26 : x11_2 < (t691001.length : Int)
       rotate_left
       ·rw [if_neg c26] at H
        exact absurd H (by simp)
       rw [if_pos c26] at H
       have c26b0 : decide (x11_2 < (t691001.length : Int)) = true := decide_eq_true c26
       clear c26
       by_cases c27 : 0 ≤ x12_3
       rotate_left
       ·rw [if_neg c27] at H
        exact absurd H (by simp)
       rw [if_pos c27] at H
       have c27b0 : decide (0 ≤ x12_3) = true := decide_eq_true c27
       clear c27
       by_cases c28 : x12_3 < ((rd_L1 t691001 x11_2).length : Int)
       rotate_left
       ·rw [if_neg c28] at H
        exact absurd H (by simp)
       rw [if_pos c28] at H
       have c28b0 : decide (x12_3 < ((rd_L1 t691001 x11_2).length : Int)) = true := decide_eq_true c28
       clear c28
       have H' := Aside0.mk H
       clear H
       obtain ⟨Ao29, co29, eo29⟩ := Kd.S_slice HO_6.out
       subst eo29
       have p691009 : 0 ≤ (x11_2 : Int) := of_decide_eq_true (by first | (with_reducible assumption) | assumption)
       have q691009 : x11_2 < (t691001.length : Int) := of_decide_eq_true (by first | (with_reducible assumption) | assumption)
       obtain ⟨ad691009, A691009_0, c691009_0, e691009, hx691009_0, hl691009_0, hi691009_0⟩ := at_L1 (Kd.S_reads' HO_6.out).2.2 x11_2 p691009 q691009
       cases e691009
       obtain ⟨ce691009, hce691009, hMe691009, hcc691009⟩ := Kd.S_get HO_6.out [] x11_2 p691009 (by first | exact q691009 | exact of_decide_eq_true (by first | (with_reducible assumption) | assumption) | (have e_ := (Kd.S_reads' HO_6.out).1; omega))
       obtain ⟨ve691009_0, rfl, ge691009_0⟩ := hMe691009
       have hv691009_0 := hcc691009 0 _ rfl
       rw [Nat.add_zero, show ((Kd.slice 2 (Kd.int .i64))).sz = 1 from rfl, Nat.mul_one] at hv691009_0
       replace hv691009_0 := Option.some.inj (hv691009_0.symm.trans hx691009_0)
       rw [hv691009_0] at ge691009_0
       have HL691009_0 := Aside0.mk (show Kd.R (Kd.int .i64) 2 _ _ _ _ (rd_L1 t691001 x11_2) from ge691009_0)
       clear hv691009_0 ge691009_0
       clear hcc691009 hce691009
       have HR691009_0 := Aside0.mk hi691009_0
       have HC691009_0 := Aside0.mk hl691009_0
       clear hi691009_0 hl691009_0
       replace p691009 := eq_true p691009
       replace q691009 := eq_true q691009
       have p691010 : 0 ≤ (x12_3 : Int) := of_decide_eq_true (by first | (with_reducible assumption) | assumption)
       have q691010 : x12_3 < ((rd_L1 t691001 x11_2).length : Int) := of_decide_eq_true (by first | (with_reducible assumption) | assumption)
       obtain ⟨ad691010, e691010, hx691010_0⟩ := Kd.at_int (by repeat (first | (with_reducible exact HR691009_0.out) | (with_reducible refine Kd.C_alloc ?_ _) | (with_reducible refine Kd.C_drewN ?_ _) | (with_reducible refine Kd.C_drew ?_) | exact HR691009_0.out)) x12_3 p691010 q691010
       cases e691010
       replace p691010 := eq_true p691010
       replace q691010 := eq_true q691010
       go_wp2
       go_roundg k3
       case measure => have := HK1.out; have := HK2.out; have := HK3.out; omega
       case rel => exact ⟨(((rd (rd_L1 t691001 x11_2) x12_3) == a1)), (wrap64 (x12_3 + 1)), (by first | rfl | (simp; done) | (simp [*]; done)), (by first | rfl | (simp; done) | (simp [*]; done)), H', ⟨by have := HK1.out; have := HK2.out; have := HK3.out; omega⟩, ⟨by (with_reducible repeat (first | apply Kd.S_alloc | apply Kd.S_drewN | apply Kd.S_drew)); exact HO_6.out⟩, ⟨by (with_reducible repeat (first | apply Kd.R_alloc | apply Kd.R_drewN | apply Kd.R_drew)); exact HO_7.out⟩, ⟨by repeat (first | (with_reducible first | exact HB.out | apply below_alloc | apply pw_below_drewN | apply below_drew1) | exact HB.out)⟩⟩
end Go.Proofs.YtcnekpdoldljgaaGreat.F
end
section
namespace Go.Proofs.YtcnekpdoldljgaaGreat.F
open Go.RowKit Go.Proofs.YtcnekpdoldljgaaGreatW.PrintWords Go.Proofs.YtcnekpdoldljgaaGreatW.PrintLast Go.Proofs.YtcnekpdoldljgaaGreatW.PrintMore
attribute [local go_sem] max2_int min2_int max_two min_two max_three min_three max_four min_four   
set_option linter.unusedVariables false
set_option linter.unusedSimpArgs false
def spec_IndependentNumbers.f (k : Nat) (l0 : List Int) : Option (List Int × Int) := (spec_l10Code.f k l0 ([] : List Int)).bind fun t231001 => (if t231001 = 0 then ((spec_l10Sets.f k l0 0).bind fun t231002 => (some (t231002, 0))) else (some (([] : List Int), t231001)))
theorem spec_IndependentNumbers.mono : ∀ a0 k, LeO (spec_IndependentNumbers.f k a0) (spec_IndependentNumbers.f (k + 1) a0) := by
  intro a0 k
  unfold spec_IndependentNumbers.f
  repeat' first
      | (with_reducible exact spec_l10Code.mono _ _ _)
      | (with_reducible exact spec_l10Sets.mono _ _ _)
      | (with_reducible exact LeO.refl _)
      | (with_reducible exact LeO.none _)
      | (with_reducible refine LeO.ite ?_ ?_)
      | (with_reducible refine LeO.bind ?_ (fun _ => ?_))
      | exact spec_l10Code.mono _ _ _
      | exact spec_l10Sets.mono _ _ _
      | exact LeO.none _
      | refine LeO.ite ?_ ?_
      | refine LeO.bind ?_ (fun _ => ?_)
set_option maxHeartbeats 8000000 in
set_option maxRecDepth 100000 in
theorem spec_IndependentNumbers.calls (k : Nat) (A0 : Option Addr) (c0 : Nat) (l0 : List Int) (r1 : List Int) (r2 : Int) (w : World) (hr0 : Kd.C (Kd.int .i64) w A0 l0.length l0) (hc0 : l0.length ≤ c0) (h : spec_IndependentNumbers.f k l0 = some (r1, r2)) :
    Calls Tryz.prog 23 #[.slice A0 l0.length c0] w fun e w' => ∃ v0_ : Value, e = .returned (.tuple #[v0_, .int .i64 r2]) ∧ Kd.R (Kd.int .i64) 2 w' w.heap.size (fun _ => True) v0_ r1 ∧ Below w.heap.size w w' := by
  have HR0 := Aside0.mk hr0
  have HC0 := Aside0.mk hc0
  clear hr0 hc0
  have HB := Aside0.mk (Below.refl w.heap.size w)
  have H : ((spec_l10Code.f k l0 ([] : List Int)).bind fun t231001 => (if t231001 = 0 then ((spec_l10Sets.f k l0 0).bind fun t231002 => (some (t231002, 0))) else (some (([] : List Int), t231001)))) = some (r1, r2) := h
  clear h
  replace H := Option.bind_eq_some_iff.mp H
  obtain ⟨t231001, A20, H⟩ := H
  replace H : (if t231001 = 0 then ((spec_l10Sets.f k l0 0).bind fun t231002 => (some (t231002, 0))) else (some (([] : List Int), t231001))) = some (r1, r2) := H
  have A2 := Aside0.mk A20
  clear A20
  by_cases c3 : t231001 = 0
  rotate_left
  · rw [if_neg c3] at H
    have c3b0 : (t231001 == 0) = false := beq_eq_false_iff_ne.mpr c3
    have c3b1 : (t231001 != 0) = true := bne_iff_ne.mpr c3
    simp only [Option.some.injEq, Prod.mk.injEq] at H
    obtain ⟨rfl, rfl⟩ := H
    go_enter Tryz.func23, Tryz.ntmps23
    go_wp2_with (first | ((with_reducible refine gate_callee (f := 58) rfl ?_); refine goesL_ (some 6) rfl rfl Tryz.func58 (by kernel_rfl) rfl #[.slice A0 l0.length c0, .slice none 0 0] rfl (by (try simp only [List.map_toArray, List.map_cons, List.map_nil]); first | done | rfl | (simp only [List.length_drop, List.length_take]; rfl)) ?_; (refine (spec_l10Code.calls k _ _ l0 _ _ ([] : List Int) t231001 _ ?side1 ?side2 ?side3 ?side4 A2.out).mono ?_); (case side1 => repeat (first | exact HR0.out | (with_reducible refine Kd.C_alloc ?_ _) | (with_reducible refine Kd.C_drewN ?_ _) | (with_reducible refine Kd.C_drew ?_))); (case side2 => exact HC0.out); (case side3 => exact Kd.C_nil _ _); (case side4 => exact Nat.le_refl _); rintro e w7 ⟨rfl, hb⟩; refine ⟨_, rfl, ?_⟩; have n0_ := Aside0.mk (below_step (by repeat (first | (with_reducible first | exact HB.out | apply below_alloc | apply pw_below_drewN | apply below_drew1) | exact HB.out)) hb); clear HB; have HB := n0_; clear n0_; (try clear hb); (try clear hb2); (try clear hk); (try clear hi)))
    go_ret2
    exact ⟨_, by first | rfl | (simp [errW_none, errW_some] <;> rfl) | (simp [*, errW_none, errW_some] <;> rfl), by first | exact Kd.R_nil _ _ _ _ _ | exact Kd.N_nil _ _ _ _ _ | exact Kd.V_nil _ _ _ _ _ | exact Kd.Q_nil _ _ _ _ _ | exact Kd.S_nil _ _ _ _ _, by repeat (first | (with_reducible first | exact HB.out | apply below_alloc | apply pw_below_drewN | apply below_drew1) | exact HB.out)⟩
  rw [if_pos c3] at H
  have c3b0 : (t231001 == 0) = true := beq_iff_eq.mpr c3
  have c3b1 : (t231001 != 0) = false := bne_eq_false_iff_eq.mpr c3
  clear c3
  replace H := Option.bind_eq_some_iff.mp H
  obtain ⟨t231002, A40, H⟩ := H
  replace H : (some (t231002, 0)) = some (r1, r2) := H
  have A4 := Aside0.mk A40
  clear A40
  simp only [Option.some.injEq, Prod.mk.injEq] at H
  obtain ⟨rfl, rfl⟩ := H
  go_enter Tryz.func23, Tryz.ntmps23
  go_wp2_with (first | ((with_reducible refine gate_callee (f := 58) rfl ?_); refine goesL_ (some 6) rfl rfl Tryz.func58 (by kernel_rfl) rfl #[.slice A0 l0.length c0, .slice none 0 0] rfl (by (try simp only [List.map_toArray, List.map_cons, List.map_nil]); first | done | rfl | (simp only [List.length_drop, List.length_take]; rfl)) ?_; (refine (spec_l10Code.calls k _ _ l0 _ _ ([] : List Int) t231001 _ ?side1 ?side2 ?side3 ?side4 A2.out).mono ?_); (case side1 => repeat (first | exact HR0.out | (with_reducible refine Kd.C_alloc ?_ _) | (with_reducible refine Kd.C_drewN ?_ _) | (with_reducible refine Kd.C_drew ?_))); (case side2 => exact HC0.out); (case side3 => exact Kd.C_nil _ _); (case side4 => exact Nat.le_refl _); rintro e w5 ⟨rfl, hb⟩; refine ⟨_, rfl, ?_⟩; have n0_ := Aside0.mk (below_step (by repeat (first | (with_reducible first | exact HB.out | apply below_alloc | apply pw_below_drewN | apply below_drew1) | exact HB.out)) hb); clear HB; have HB := n0_; clear n0_; (try clear hb); (try clear hb2); (try clear hk); (try clear hi)) | ((with_reducible refine gate_callee (f := 69) rfl ?_); refine goesL_ (some 11) rfl rfl Tryz.func69 (by kernel_rfl) rfl #[.slice A0 l0.length c0, .int .i64 0] rfl (by (try simp only [List.map_toArray, List.map_cons, List.map_nil]); first | done | rfl | (simp only [List.length_drop, List.length_take]; rfl)) ?_; (with_reducible refine (spec_l10Sets.calls k _ _ l0 0 t231002 _ ?side1 ?side2 A4.out).mono ?_); (case side1 => repeat (first | exact (Kd.C_below HR0.out HB.out) | (with_reducible refine Kd.C_alloc ?_ _) | (with_reducible refine Kd.C_drewN ?_ _) | (with_reducible refine Kd.C_drew ?_))); (case side2 => exact HC0.out); rintro e w6 ⟨v231003, rfl, ho0, hb⟩; refine ⟨_, rfl, ?_⟩; have n0_ := Aside0.mk (Kd.R_lower ho0 (below_size (by repeat (first | (with_reducible first | exact HB.out | apply below_alloc | apply pw_below_drewN | apply below_drew1) | exact HB.out)))); have n1_ := Aside0.mk (below_step (by repeat (first | (with_reducible first | exact HB.out | apply below_alloc | apply pw_below_drewN | apply below_drew1) | exact HB.out)) hb); clear HB; have HO231004 := n0_; have HB := n1_; clear n0_ n1_; (try clear hb); (try clear hb2); (try clear hk); (try clear hi); (try clear ho0)))
  go_ret2
  exact ⟨_, by first | rfl | (simp [errW_none, errW_some] <;> rfl) | (simp [*, errW_none, errW_some] <;> rfl), by (with_reducible repeat (first | apply Kd.R_alloc | apply Kd.R_drewN | apply Kd.R_drew)); exact HO231004.out, by repeat (first | (with_reducible first | exact HB.out | apply below_alloc | apply pw_below_drewN | apply below_drew1) | exact HB.out)⟩
end Go.Proofs.YtcnekpdoldljgaaGreat.F
end
section
namespace Go.Proofs.YtcnekpdoldljgaaGreat.F
open Go.RowKit Go.Proofs.YtcnekpdoldljgaaGreatW.PrintWords Go.Proofs.YtcnekpdoldljgaaGreatW.PrintLast Go.Proofs.YtcnekpdoldljgaaGreatW.PrintMore
attribute [local go_sem] max2_int min2_int max_two min_two max_three min_three max_four min_four   
set_option linter.unusedVariables false
set_option linter.unusedSimpArgs false
def impl_CliqueNumbers_1.f (l0 : List Int) : Option (List Int) := impl_setNumbers.f l0 true
set_option maxHeartbeats 8000000 in
theorem impl_CliqueNumbers_1.calls (A0 : Option Addr) (c0 : Nat) (l0 : List Int) (r : List Int) (w : World) (hr0 : Kd.C (Kd.int .i64) w A0 l0.length l0) (hc0 : l0.length ≤ c0) (h : impl_CliqueNumbers_1.f l0 = some r) :
    Calls Tryz.prog 70 #[.slice A0 l0.length c0] w fun e w' => ∃ v0_ : Value, e = .returned v0_ ∧ Kd.R (Kd.int .i64) 2 w' w.heap.size (fun _ => True) v0_ r ∧ Below w.heap.size w w' := by
  have HR := Aside0.mk hr0
  have HC := Aside0.mk hc0
  have HF := Aside0.mk h
  clear hr0 hc0 h
  go_enter Tryz.func70, Tryz.ntmps70
  go_wp2_with (first | (go_at_call 68; refine (impl_setNumbers.calls A0 c0 l0 true r _ HR.out HC.out HF.out).mono ?_; rintro e w2 ⟨v0, rfl, ho2, hb2⟩; have HO2 := Aside0.mk ho2; have HB2 := Aside0.mk hb2; clear ho2 hb2))
  go_ret
  exact ⟨_, rfl, HO2.out, HB2.out⟩
def impl_CliqueNumbers.f (k : Nat) (l0 : List Int) : Option (List Int × Int) := (impl_IsWord.f k l0).bind fun t => (if t = true then ((impl_CliqueNumbers_1.f l0).bind fun t2 => (some (t2, 0))) else (some ([], 1)))
theorem impl_CliqueNumbers.mono : ∀ a0 k, LeO (impl_CliqueNumbers.f k a0) (impl_CliqueNumbers.f (k + 1) a0) := fun _ _ => LeO.bind (impl_IsWord.mono _ _) (fun _ => LeO.ite (LeO.bind (LeO.refl _) fun _ => LeO.refl _) (LeO.refl _))
set_option maxHeartbeats 8000000 in
set_option maxRecDepth 100000 in
theorem changedWord_CliqueNumbers.calls (k : Nat) (A0 : Option Addr) (c0 : Nat) (l0 : List Int) (r1 : List Int) (r2 : Int) (w : World) (hr0 : Kd.C (Kd.int .i64) w A0 l0.length l0) (hc0 : l0.length ≤ c0) (h : impl_CliqueNumbers.f k l0 = some (r1, r2)) :
    Calls Tryz.prog 56 #[.slice A0 l0.length c0, .func (.func 70) #[] #[]] w fun e w' => ∃ v0_ : Value, e = .returned (.tuple #[v0_, .int .i64 r2]) ∧ Kd.R (Kd.int .i64) 2 w' w.heap.size (fun _ => True) v0_ r1 ∧ Below w.heap.size w w' := by
  have HR := Aside0.mk hr0
  have HC := Aside0.mk hc0
  clear hr0 hc0
  unfold impl_CliqueNumbers.f at h
  obtain ⟨t, ht, h⟩ := Option.bind_eq_some_iff.1 h
  have HT := Aside0.mk ht
  clear ht
  cases t with
  | true =>
    rw [if_pos rfl] at h
    obtain ⟨t2, ht2, h⟩ := Option.bind_eq_some_iff.1 h
    have HG := Aside0.mk ht2
    simp only [Option.some.injEq, Prod.mk.injEq] at h
    obtain ⟨rfl, rfl⟩ := h
    clear ht2
    go_enter Tryz.func56, Tryz.ntmps56
    go_wp2_with (first
      | (go_at_call 61; refine (impl_IsWord.calls k A0 c0 l0 true _ HR.out HC.out HT.out).mono ?_; rintro e w1 ⟨rfl, hb1⟩; have HB1 := Aside0.mk hb1; clear hb1)
      | (go_at_call 70; refine (impl_CliqueNumbers_1.calls A0 c0 l0 t2 _ (Kd.C_below HR.out HB1.out) HC.out HG.out).mono ?_; rintro e w2 ⟨v0, rfl, ho2, hb2⟩; have HO2 := Aside0.mk ho2; have HB2 := Aside0.mk hb2; clear ho2 hb2))
    go_ret2
    exact ⟨_, rfl, Kd.R_lower HO2.out (below_size HB1.out), below_step HB1.out HB2.out⟩
  | false =>
    rw [if_neg (by simp)] at h
    simp only [Option.some.injEq, Prod.mk.injEq] at h
    obtain ⟨rfl, rfl⟩ := h
    go_enter Tryz.func56, Tryz.ntmps56
    go_wp2_with (first
      | (go_at_call 61; refine (impl_IsWord.calls k A0 c0 l0 false _ HR.out HC.out HT.out).mono ?_; rintro e w1 ⟨rfl, hb1⟩; have HB1 := Aside0.mk hb1; clear hb1))
    go_ret2
    exact ⟨_, rfl, Kd.R_nil _ _ _ _ _, HB1.out⟩
set_option maxHeartbeats 8000000 in
set_option maxRecDepth 100000 in
theorem impl_CliqueNumbers.calls (k : Nat) (A0 : Option Addr) (c0 : Nat) (l0 : List Int) (r1 : List Int) (r2 : Int) (w : World) (hr0 : Kd.C (Kd.int .i64) w A0 l0.length l0) (hc0 : l0.length ≤ c0) (h : impl_CliqueNumbers.f k l0 = some (r1, r2)) :
    Calls Tryz.prog 24 #[.slice A0 l0.length c0] w fun e w' => ∃ v0_ : Value, e = .returned (.tuple #[v0_, .int .i64 r2]) ∧ Kd.R (Kd.int .i64) 2 w' w.heap.size (fun _ => True) v0_ r1 ∧ Below w.heap.size w w' := by
  have HR := Aside0.mk hr0
  have HC := Aside0.mk hc0
  have HF := Aside0.mk h
  clear hr0 hc0 h
  go_enter Tryz.func24, Tryz.ntmps24
  go_wp2_with (first
    | (go_at_call 56; refine (changedWord_CliqueNumbers.calls k A0 c0 l0 r1 r2 _ HR.out HC.out HF.out).mono ?_; rintro e w2 ⟨v0, rfl, ho2, hb2⟩; have HO2 := Aside0.mk ho2; have HB2 := Aside0.mk hb2; clear ho2 hb2))
  go_ret2
  exact ⟨_, rfl, HO2.out, HB2.out⟩
end Go.Proofs.YtcnekpdoldljgaaGreat.F
end
section
namespace Go.Proofs.YtcnekpdoldljgaaGreat.F
open Go.RowKit Go.Proofs.YtcnekpdoldljgaaGreatW.PrintWords Go.Proofs.YtcnekpdoldljgaaGreatW.PrintLast Go.Proofs.YtcnekpdoldljgaaGreatW.PrintMore
attribute [local go_sem] max2_int min2_int max_two min_two max_three min_three max_four min_four   
set_option linter.unusedVariables false
set_option linter.unusedSimpArgs false
def spec_CliqueNumbers.f (k : Nat) (l0 : List Int) : Option (List Int × Int) := (spec_l10Code.f k l0 ([] : List Int)).bind fun t251001 => (if t251001 = 0 then ((spec_l10Sets.f k l0 1).bind fun t251002 => (some (t251002, 0))) else (some (([] : List Int), t251001)))
theorem spec_CliqueNumbers.mono : ∀ a0 k, LeO (spec_CliqueNumbers.f k a0) (spec_CliqueNumbers.f (k + 1) a0) := by
  intro a0 k
  unfold spec_CliqueNumbers.f
  repeat' first
      | (with_reducible exact spec_l10Code.mono _ _ _)
      | (with_reducible exact spec_l10Sets.mono _ _ _)
      | (with_reducible exact LeO.refl _)
      | (with_reducible exact LeO.none _)
      | (with_reducible refine LeO.ite ?_ ?_)
      | (with_reducible refine LeO.bind ?_ (fun _ => ?_))
      | exact spec_l10Code.mono _ _ _
      | exact spec_l10Sets.mono _ _ _
      | exact LeO.none _
      | refine LeO.ite ?_ ?_
      | refine LeO.bind ?_ (fun _ => ?_)
set_option maxHeartbeats 8000000 in
set_option maxRecDepth 100000 in
theorem spec_CliqueNumbers.calls (k : Nat) (A0 : Option Addr) (c0 : Nat) (l0 : List Int) (r1 : List Int) (r2 : Int) (w : World) (hr0 : Kd.C (Kd.int .i64) w A0 l0.length l0) (hc0 : l0.length ≤ c0) (h : spec_CliqueNumbers.f k l0 = some (r1, r2)) :
    Calls Tryz.prog 25 #[.slice A0 l0.length c0] w fun e w' => ∃ v0_ : Value, e = .returned (.tuple #[v0_, .int .i64 r2]) ∧ Kd.R (Kd.int .i64) 2 w' w.heap.size (fun _ => True) v0_ r1 ∧ Below w.heap.size w w' := by
  have HR0 := Aside0.mk hr0
  have HC0 := Aside0.mk hc0
  clear hr0 hc0
  have HB := Aside0.mk (Below.refl w.heap.size w)
  have H : ((spec_l10Code.f k l0 ([] : List Int)).bind fun t251001 => (if t251001 = 0 then ((spec_l10Sets.f k l0 1).bind fun t251002 => (some (t251002, 0))) else (some (([] : List Int), t251001)))) = some (r1, r2) := h
  clear h
  replace H := Option.bind_eq_some_iff.mp H
  obtain ⟨t251001, A20, H⟩ := H
  replace H : (if t251001 = 0 then ((spec_l10Sets.f k l0 1).bind fun t251002 => (some (t251002, 0))) else (some (([] : List Int), t251001))) = some (r1, r2) := H
  have A2 := Aside0.mk A20
  clear A20
  by_cases c3 : t251001 = 0
  rotate_left
  · rw [if_neg c3] at H
    have c3b0 : (t251001 == 0) = false := beq_eq_false_iff_ne.mpr c3
    have c3b1 : (t251001 != 0) = true := bne_iff_ne.mpr c3
    simp only [Option.some.injEq, Prod.mk.injEq] at H
    obtain ⟨rfl, rfl⟩ := H
    go_enter Tryz.func25, Tryz.ntmps25
    go_wp2_with (first | ((with_reducible refine gate_callee (f := 58) rfl ?_); refine goesL_ (some 6) rfl rfl Tryz.func58 (by kernel_rfl) rfl #[.slice A0 l0.length c0, .slice none 0 0] rfl (by (try simp only [List.map_toArray, List.map_cons, List.map_nil]); first | done | rfl | (simp only [List.length_drop, List.length_take]; rfl)) ?_; (refine (spec_l10Code.calls k _ _ l0 _ _ ([] : List Int) t251001 _ ?side1 ?side2 ?side3 ?side4 A2.out).mono ?_); (case side1 => repeat (first | exact HR0.out | (with_reducible refine Kd.C_alloc ?_ _) | (with_reducible refine Kd.C_drewN ?_ _) | (with_reducible refine Kd.C_drew ?_))); (case side2 => exact HC0.out); (case side3 => exact Kd.C_nil _ _); (case side4 => exact Nat.le_refl _); rintro e w7 ⟨rfl, hb⟩; refine ⟨_, rfl, ?_⟩; have n0_ := Aside0.mk (below_step (by repeat (first | (with_reducible first | exact HB.out | apply below_alloc | apply pw_below_drewN | apply below_drew1) | exact HB.out)) hb); clear HB; have HB := n0_; clear n0_; (try clear hb); (try clear hb2); (try clear hk); (try clear hi)))
    go_ret2
    exact ⟨_, by first | rfl | (simp [errW_none, errW_some] <;> rfl) | (simp [*, errW_none, errW_some] <;> rfl), by first | exact Kd.R_nil _ _ _ _ _ | exact Kd.N_nil _ _ _ _ _ | exact Kd.V_nil _ _ _ _ _ | exact Kd.Q_nil _ _ _ _ _ | exact Kd.S_nil _ _ _ _ _, by repeat (first | (with_reducible first | exact HB.out | apply below_alloc | apply pw_below_drewN | apply below_drew1) | exact HB.out)⟩
  rw [if_pos c3] at H
  have c3b0 : (t251001 == 0) = true := beq_iff_eq.mpr c3
  have c3b1 : (t251001 != 0) = false := bne_eq_false_iff_eq.mpr c3
  clear c3
  replace H := Option.bind_eq_some_iff.mp H
  obtain ⟨t251002, A40, H⟩ := H
  replace H : (some (t251002, 0)) = some (r1, r2) := H
  have A4 := Aside0.mk A40
  clear A40
  simp only [Option.some.injEq, Prod.mk.injEq] at H
  obtain ⟨rfl, rfl⟩ := H
  go_enter Tryz.func25, Tryz.ntmps25
  go_wp2_with (first | ((with_reducible refine gate_callee (f := 58) rfl ?_); refine goesL_ (some 6) rfl rfl Tryz.func58 (by kernel_rfl) rfl #[.slice A0 l0.length c0, .slice none 0 0] rfl (by (try simp only [List.map_toArray, List.map_cons, List.map_nil]); first | done | rfl | (simp only [List.length_drop, List.length_take]; rfl)) ?_; (refine (spec_l10Code.calls k _ _ l0 _ _ ([] : List Int) t251001 _ ?side1 ?side2 ?side3 ?side4 A2.out).mono ?_); (case side1 => repeat (first | exact HR0.out | (with_reducible refine Kd.C_alloc ?_ _) | (with_reducible refine Kd.C_drewN ?_ _) | (with_reducible refine Kd.C_drew ?_))); (case side2 => exact HC0.out); (case side3 => exact Kd.C_nil _ _); (case side4 => exact Nat.le_refl _); rintro e w5 ⟨rfl, hb⟩; refine ⟨_, rfl, ?_⟩; have n0_ := Aside0.mk (below_step (by repeat (first | (with_reducible first | exact HB.out | apply below_alloc | apply pw_below_drewN | apply below_drew1) | exact HB.out)) hb); clear HB; have HB := n0_; clear n0_; (try clear hb); (try clear hb2); (try clear hk); (try clear hi)) | ((with_reducible refine gate_callee (f := 69) rfl ?_); refine goesL_ (some 11) rfl rfl Tryz.func69 (by kernel_rfl) rfl #[.slice A0 l0.length c0, .int .i64 1] rfl (by (try simp only [List.map_toArray, List.map_cons, List.map_nil]); first | done | rfl | (simp only [List.length_drop, List.length_take]; rfl)) ?_; (with_reducible refine (spec_l10Sets.calls k _ _ l0 1 t251002 _ ?side1 ?side2 A4.out).mono ?_); (case side1 => repeat (first | exact (Kd.C_below HR0.out HB.out) | (with_reducible refine Kd.C_alloc ?_ _) | (with_reducible refine Kd.C_drewN ?_ _) | (with_reducible refine Kd.C_drew ?_))); (case side2 => exact HC0.out); rintro e w6 ⟨v251003, rfl, ho0, hb⟩; refine ⟨_, rfl, ?_⟩; have n0_ := Aside0.mk (Kd.R_lower ho0 (below_size (by repeat (first | (with_reducible first | exact HB.out | apply below_alloc | apply pw_below_drewN | apply below_drew1) | exact HB.out)))); have n1_ := Aside0.mk (below_step (by repeat (first | (with_reducible first | exact HB.out | apply below_alloc | apply pw_below_drewN | apply below_drew1) | exact HB.out)) hb); clear HB; have HO251004 := n0_; have HB := n1_; clear n0_ n1_; (try clear hb); (try clear hb2); (try clear hk); (try clear hi); (try clear ho0)))
  go_ret2
  exact ⟨_, by first | rfl | (simp [errW_none, errW_some] <;> rfl) | (simp [*, errW_none, errW_some] <;> rfl), by (with_reducible repeat (first | apply Kd.R_alloc | apply Kd.R_drewN | apply Kd.R_drew)); exact HO251004.out, by repeat (first | (with_reducible first | exact HB.out | apply below_alloc | apply pw_below_drewN | apply below_drew1) | exact HB.out)⟩
end Go.Proofs.YtcnekpdoldljgaaGreat.F
end
section
namespace Go.Proofs.YtcnekpdoldljgaaGreat.F
open Go.RowKit Go.Proofs.YtcnekpdoldljgaaGreatW.PrintWords Go.Proofs.YtcnekpdoldljgaaGreatW.PrintLast Go.Proofs.YtcnekpdoldljgaaGreatW.PrintMore
attribute [local go_sem] max2_int min2_int max_two min_two max_three min_three max_four min_four   
set_option linter.unusedVariables false
set_option linter.unusedSimpArgs false
set_option maxHeartbeats 4000000 in
theorem slices_Clip_int64_int64.calls (A : Option Addr) (n c : Nat) (w : World) (hc : n ≤ c) :
    Calls Tryz.prog 134 #[.slice A n c] w fun e w' => e = .returned (.slice A n n) ∧ w' = w := by
  go_enter Tryz.func134, Tryz.ntmps134
  go_wp2
  go_ret
  exact ⟨rfl, rfl⟩
end Go.Proofs.YtcnekpdoldljgaaGreat.F
end
section
namespace Go.Proofs.YtcnekpdoldljgaaGreat.F
open Go.RowKit Go.Proofs.YtcnekpdoldljgaaGreatW.PrintWords Go.Proofs.YtcnekpdoldljgaaGreatW.PrintLast Go.Proofs.YtcnekpdoldljgaaGreatW.PrintMore
attribute [local go_sem] max2_int min2_int max_two min_two max_three min_three max_four min_four   
set_option linter.unusedVariables false
set_option linter.unusedSimpArgs false
open Go.Proofs.YtcnekpdoldljgaaGreat.Pure Go.Proofs.YtcnekpdoldljgaaGreat.Mem
def matchW (X : Nat → Nat → Bool) : Nat → Nat → List Int → List Int → List Int
 | 0, _, used, out => out.set (used.length / 2) (wrap64 (out.getD (used.length / 2) 0 + 1))
 | d + 1, i, used, out => (List.range d).foldl (fun o j => if !used.contains (i : Int) && !used.contains ((i + 1 + j : Nat) : Int) && X i (i + 1 + j) then matchW X d (i + 1) (used ++ [(i : Int), ((i + 1 + j : Nat) : Int)]) o else o) (matchW X d (i + 1) used out)
def matchTo (X : Nat → Nat → Bool) (d i : Nat) (used out : List Int) (j : Nat) : List Int := (List.range j).foldl (fun o j => if !used.contains (i : Int) && !used.contains ((i + 1 + j : Nat) : Int) && X i (i + 1 + j) then matchW X d (i + 1) (used ++ [(i : Int), ((i + 1 + j : Nat) : Int)]) o else o) (matchW X d (i + 1) used out)
theorem matchTo_succ (X : Nat → Nat → Bool) (d i : Nat) (used out : List Int) (j : Nat) : matchTo X d i used out (j + 1) = if !used.contains (i : Int) && !used.contains ((i + 1 + j : Nat) : Int) && X i (i + 1 + j) then matchW X d (i + 1) (used ++ [(i : Int), ((i + 1 + j : Nat) : Int)]) (matchTo X d i used out j) else matchTo X d i used out j := by
 unfold matchTo; rw [List.range_succ, List.foldl_append]; rfl
theorem matchTo_len' (X : Nat → Nat → Bool) (d i : Nat) (used out : List Int) (h : ∀ used out : List Int, (matchW X d (i + 1) used out).length = out.length) : ∀ j, (matchTo X d i used out j).length = out.length
 | 0 => h used out
 | j + 1 => by
  rw [matchTo_succ]
  split
  ·rw [h]; exact matchTo_len' X d i used out h j
  ·exact matchTo_len' X d i used out h j
def matchV (w : List Int) : List Int := matchW (crossB w) (w.length / 2) 0 [] (List.replicate (w.length / 2 / 2 + 1) 0)
def impl_matchings.f (l0 : List Int) : Option (List Int) := if isW l0 = true then some (matchV l0) else none
theorem matchW_len (X : Nat → Nat → Bool) : ∀ (d i : Nat) (used out : List Int), (matchW X d i used out).length = out.length
 | 0, _, _, _ => by rw [matchW, List.length_set]
 | d + 1, i, used, out => by rw [matchW]; exact matchTo_len' X d i used out (matchW_len X d (i + 1)) d
theorem matchTo_len (X : Nat → Nat → Bool) (d i : Nat) (used out : List Int) (j : Nat) : (matchTo X d i used out j).length = out.length := matchTo_len' X d i used out (matchW_len X d (i + 1)) j
theorem used_app {used : List Int} {i k : Nat} (hd : used.Nodup) (ha : used.contains (i : Int) = false) (hb : used.contains (k : Int) = false) (hne : i ≠ k) : (used ++ [(i : Int), (k : Int)]).Nodup := by
 rw [List.nodup_append]
 refine ⟨hd, List.nodup_cons.2 ⟨by simp; omega, List.nodup_cons.2 ⟨by simp, List.nodup_nil⟩⟩, fun a hm b hb2 => ?_⟩
 intro e
 subst e
 rcases List.mem_cons.1 hb2 with rfl | h
 ·rw [List.contains_iff_mem.2 hm] at ha; exact absurd ha (by simp)
 ·rw [List.mem_singleton] at h; subst h; rw [List.contains_iff_mem.2 hm] at hb; exact absurd hb (by simp)
theorem mem_app {used : List Int} {i k n : Nat} (hu : ∀ x ∈ used, 0 ≤ x ∧ x < (n : Int)) (hi : i < n) (hk : k < n) : ∀ x ∈ used ++ [(i : Int), (k : Int)], 0 ≤ x ∧ x < (n : Int) := by
 intro x hx
 rcases List.mem_append.1 hx with h | h
 ·exact hu x h
 ·rcases List.mem_cons.1 h with rfl | h
  ·omega
  ·rw [List.mem_singleton] at h; omega
structure MEnv (w : World) (l0 : List Int) (A0 : Option Addr) (c0 n m Bn Bo Bm Bw Br : Nat) : Prop where
 cn : w.cell? ⟨Bn, 0, none⟩ = some (.int .i64 (n : Int))
 co : w.cell? ⟨Bo, 0, none⟩ = some (.slice (some ⟨Br, 0, none⟩) m m)
 cm : w.cell? ⟨Bm, 0, none⟩ = some (.func (.func 133) #[] #[.pointer (some ⟨Bn, 0, none⟩), .pointer (some ⟨Bo, 0, none⟩), .pointer (some ⟨Bm, 0, none⟩), .pointer (some ⟨Bw, 0, none⟩)])
 cw : w.cell? ⟨Bw, 0, none⟩ = some (.slice A0 l0.length c0)
 n1 : Bn ≠ Br
 n2 : Bo ≠ Br
 n3 : Bm ≠ Br
 n4 : Bw ≠ Br
 rd : Kd.F (Kd.int .i64) w (fun k => k ≠ Br) A0 l0.length l0
 lt : Br < w.heap.size
theorem MEnv.grown {w w' : World} {l0 : List Int} {A0 : Option Addr} {c0 n m Bn Bo Bm Bw Br : Nat} (h : MEnv w l0 A0 c0 n m Bn Bo Bm Bw Br) (hg : w.grownBy w' (some Br)) : MEnv w' l0 A0 c0 n m Bn Bo Bm Bw Br :=
 ⟨hg.cell h.cn (fun e => h.n1 (Option.some.inj e)), hg.cell h.co (fun e => h.n2 (Option.some.inj e)), hg.cell h.cm (fun e => h.n3 (Option.some.inj e)), hg.cell h.cw (fun e => h.n4 (Option.some.inj e)), h.n1, h.n2, h.n3, h.n4,
  Kd.F_grown h.rd hg (fun k hk e => hk (Option.some.inj e)), Nat.lt_of_lt_of_le h.lt hg.size⟩
theorem used_len {used : List Int} {n : Nat} (hd : used.Nodup) (hu : ∀ x ∈ used, 0 ≤ x ∧ x < (n : Int)) : used.length ≤ n := by
 have h : ∀ (l m : List Int), l.Nodup → (∀ x ∈ l, x ∈ m) → l.length ≤ m.length := by
  intro l
  induction l with
  | nil => intro m _ _; exact Nat.zero_le _
  | cons a l ih =>
   intro m hd h
   have hn := List.nodup_cons.1 hd
   have ha := h a List.mem_cons_self
   have := ih (m.erase a) hn.2 (fun x hx => (List.mem_erase_of_ne (fun (e : x = a) => hn.1 (e ▸ hx))).2 (h x (List.mem_cons_of_mem _ hx)))
   rw [List.length_erase_of_mem ha] at this
   have := List.length_pos_of_mem ha
   rw [List.length_cons]; omega
 have := h used ((List.range n).map fun i : Nat => (i : Int)) hd (fun x hx => List.mem_map.2 ⟨x.toNat, List.mem_range.2 (by have := hu x hx; omega), by have := hu x hx; omega⟩)
 simpa using this
set_option maxHeartbeats 8000000 in
set_option maxRecDepth 100000 in
theorem matchings_1_end (l0 : List Int) (A0 : Option Addr) (c0 n m Bn Bo Bm Bw Br : Nat) (used out : List Int) (A : Option Addr) (c : Nat) (w : World) (hn6 : n ≤ 6) (E : MEnv w l0 A0 c0 n m Bn Bo Bm Bw Br)
  (hm : out.length = m) (hr : w.heap[Br]? = some (.cells (nums .i64 out).toArray 2 (0, 0))) (hul : used.length ≤ 12) (hul2 : used.length / 2 < m) :
  Calls Tryz.prog 133 #[.int .i64 (n : Int), .slice A used.length c, .pointer (some ⟨Bn, 0, none⟩), .pointer (some ⟨Bo, 0, none⟩), .pointer (some ⟨Bm, 0, none⟩), .pointer (some ⟨Bw, 0, none⟩)] w fun e w' =>
   e = .returned (.tuple #[]) ∧ w.grownBy w' (some Br) ∧ w'.heap[Br]? = some (.cells (nums .i64 (out.set (used.length / 2) (wrap64 (out.getD (used.length / 2) 0 + 1)))).toArray 2 (0, 0)) := by
 have h1 := E.cn
 have h2 := E.co
 have hx := blk_cell hr (used.length / 2)
 rw [nums_get out _ (by omega)] at hx
 have hfz := blk_frozen hr (used.length / 2)
 have HR := Aside0.mk hr
 have HM := Aside0.mk hm
 have HE := Aside0.mk E
 clear hr hm E
 go_enter Tryz.func133, Tryz.ntmps133
 go_wp2
 (try simp only [Exit.inBlock, Exit.then])
 refine bodyPost_ret (results_none rfl _ _ _) rfl ?_
 exact ⟨rfl, grown_set (grown_refl w _) _ _, by rw [blk_set HR.out, nums_set, List.getD_eq_getElem?_getD]⟩
set_option maxHeartbeats 8000000 in
set_option maxRecDepth 100000 in
theorem matchings_1 (l0 : List Int) (hw : Word l0) (A0 : Option Addr) (c0 n m Bn Bo Bm Bw Br : Nat) (hn : n = l0.length / 2) (hmn : m = n / 2 + 1) (hc0 : l0.length ≤ c0) : ∀ (d i : Nat) (used out : List Int) (A : Option Addr) (c : Nat) (w : World), i + d = n →
  MEnv w l0 A0 c0 n m Bn Bo Bm Bw Br → out.length = m → w.heap[Br]? = some (.cells (nums .i64 out).toArray 2 (0, 0)) → used.Nodup → (∀ x ∈ used, 0 ≤ x ∧ x < (n : Int)) → Kd.F (Kd.int .i64) w (fun k => k ≠ Br) A used.length used → used.length ≤ c →
  Calls Tryz.prog 133 #[.int .i64 (i : Int), .slice A used.length c, .pointer (some ⟨Bn, 0, none⟩), .pointer (some ⟨Bo, 0, none⟩), .pointer (some ⟨Bm, 0, none⟩), .pointer (some ⟨Bw, 0, none⟩)] w fun e w' =>
   e = .returned (.tuple #[]) ∧ w.grownBy w' (some Br) ∧ w'.heap[Br]? = some (.cells (nums .i64 (matchW (crossB l0) d i used out)).toArray 2 (0, 0)) := by
 have hw12 := hw.le
 intro d
 induction d with
 | zero =>
  intro i used out A c w hi E ho hr hd hu hF hc
  obtain rfl : i = n := by omega
  have hlen := used_len hd hu
  exact matchings_1_end l0 A0 c0 i m Bn Bo Bm Bw Br used out A c w (by omega) E ho hr (by omega) (by omega)
 | succ d ih =>
  intro i used out A c w hi E ho hr hd hu hF hc
  have hlen := used_len hd hu
  have HW := Aside0.mk hw
  have HN := Aside0.mk hn
  have HMN := Aside0.mk hmn
  have HC0 := Aside0.mk hc0
  have HI := Aside0.mk hi
  have HE := Aside0.mk E
  have HO := Aside0.mk ho
  have HR := Aside0.mk hr
  have HD := Aside0.mk hd
  have HU := Aside0.mk hu
  have HF := Aside0.mk hF
  have HC := Aside0.mk hc
  have HIH := Aside0.mk ih
  have t0 : ((i : Int) == (n : Int)) = false := by simp; omega
  have W1 := Aside0.mk (show IntKind.i64.wrap ((i : Int) + 1) = ((i + 1 : Nat) : Int) from (i64_w _).trans (wS (by omega)))
  have h1 := E.cn
  have h3 := E.cm
  have hi6 : i < 6 := by omega
  have hn6 : n ≤ 6 := by omega
  clear hw hn hmn hc0 hi E ho hr hd hu hF hc ih
  go_enter Tryz.func133, Tryz.ntmps133
  go_wp2_with fail
  refine (HIH.out (i + 1) used out A c w (by have := HI.out; omega) HE.out HO.out HR.out HD.out HU.out HF.out HC.out).mono ?_
  rintro e w1 ⟨rfl, hg1, hr1⟩
  have HG1 := Aside0.mk hg1
  have HR1 := Aside0.mk hr1
  clear hg1 hr1
  go_wp2
  go_loopw [8] (fun s wr => ∃ j k : Nat, s = .int .i64 (k : Int) ∧ Aside0 (k = i + 1 + j) ∧ Aside0 (j ≤ d) ∧ Aside0 (w.grownBy wr (some Br)) ∧ Aside0 (wr.heap[Br]? = some (.cells (nums .i64 (matchTo (crossB l0) d i used out j)).toArray 2 (0, 0))))
   (fun s _ => n - (intOf s).toNat)
  case atStart => exact ⟨0, i + 1, rfl, ⟨rfl⟩, ⟨Nat.zero_le _⟩, HG1, HR1⟩
  case round =>
   clear h1 h3
   obtain ⟨j, k, rfl, HK, HJ, HG, HH⟩ := hrel
   have HE1 := Aside0.mk (HE.out.grown HG.out)
   have h1 := HE1.out.cn
   have h3 := HE1.out.cm
   have h4 := HE1.out.cw
   by_cases hlt : j < d
   rotate_left
   ·have t1 : decide ((k : Int) < (n : Int)) = false := decide_eq_false (by have := HI.out; have := HK.out; omega)
    have t2 : decide (k < n) = false := decide_eq_false (by have := HI.out; have := HK.out; omega)
    have HJD := Aside0.mk (show j = d by have := HJ.out; omega)
    clear hlt
    go_wp2_with fail
    go_end0
    exact ⟨rfl, HG.out, by rw [matchW]; have := HH.out; rw [HJD.out] at this; exact this⟩
   have hk6 : k < 6 := by have := HI.out; have := HK.out; omega
   have hkn := Aside0.mk (show k < n from by have := HI.out; have := HK.out; omega)
   have t1 : decide ((k : Int) < (n : Int)) = true := decide_eq_true (by have := hkn.out; omega)
   have t2 : decide (k < n) = true := decide_eq_true hkn.out
   have HLT := Aside0.mk hlt
   clear hlt
   cases ca : used.contains (i : Int) with
   | true =>
    have CA := Aside0.mk ca
    clear ca
    go_wp2_with (first | (go_at_call 120; obtain ⟨q, hq⟩ := Ev.rounds (contains_ev used (i : Int) (by omega)); refine (slices_Contains_int64_int64.calls q A c used (i : Int) true _ (Kd.F_now (Kd.F_grown HF.out HG.out (fun k hk e => hk (Option.some.inj e)))) HC.out (by rw [hq, CA.out])).mono ?_; clear hq; rintro e w2 ⟨rfl, ⟨nd, rfl⟩⟩))
    go_roundw
    case rel => exact ⟨j + 1, k + 1, rfl, ⟨by rw [HK.out]; omega⟩, ⟨HLT.out⟩, ⟨grown_drewN HG.out _⟩, ⟨by rw [matchTo_succ, CA.out]; exact HH.out⟩⟩
    case measure => have := hkn.out; simp [intOf]; omega
   | false =>
    have CA := Aside0.mk ca
    clear ca
    cases cb : used.contains (k : Int) with
    | true =>
     have CB := Aside0.mk cb
     clear cb
     go_wp2_with (first | (go_at_call_of 120 (Value.int .i64 (i : Int)); obtain ⟨q, hq⟩ := Ev.rounds (contains_ev used (i : Int) (by omega)); refine (slices_Contains_int64_int64.calls q A c used (i : Int) false _ (Kd.F_now (Kd.F_grown HF.out HG.out (fun k hk e => hk (Option.some.inj e)))) HC.out (by rw [hq, CA.out])).mono ?_; clear hq; rintro e w2 ⟨rfl, ⟨nd, rfl⟩⟩) | (go_at_call_of 120 (Value.int .i64 (k : Int)); obtain ⟨q, hq⟩ := Ev.rounds (contains_ev used (k : Int) (by omega)); refine (slices_Contains_int64_int64.calls q A c used (k : Int) true _ (Kd.C_drewN (Kd.F_now (Kd.F_grown HF.out HG.out (fun k hk e => hk (Option.some.inj e)))) _) HC.out (by rw [hq, CB.out])).mono ?_; clear hq; rintro e w2 ⟨rfl, ⟨nd, rfl⟩⟩))
     go_roundw
     case rel => exact ⟨j + 1, k + 1, rfl, ⟨by rw [HK.out]; omega⟩, ⟨HLT.out⟩, ⟨grown_drewN HG.out _⟩, ⟨by rw [matchTo_succ, CA.out, ← HK.out, CB.out]; exact HH.out⟩⟩
     case measure => have := hkn.out; simp [intOf]; omega
    | false =>
     have CB := Aside0.mk cb
     clear cb
     cases cc : crossB l0 i k with
     | false =>
      have CC := Aside0.mk cc
      clear cc
      go_wp2_with (first | (go_at_call_of 120 (Value.int .i64 (i : Int)); obtain ⟨q, hq⟩ := Ev.rounds (contains_ev used (i : Int) (by omega)); refine (slices_Contains_int64_int64.calls q A c used (i : Int) false _ (Kd.F_now (Kd.F_grown HF.out HG.out (fun k hk e => hk (Option.some.inj e)))) HC.out (by rw [hq, CA.out])).mono ?_; clear hq; rintro e w2 ⟨rfl, ⟨nd, rfl⟩⟩) | (go_at_call_of 120 (Value.int .i64 (k : Int)); obtain ⟨q, hq⟩ := Ev.rounds (contains_ev used (k : Int) (by omega)); refine (slices_Contains_int64_int64.calls q A c used (k : Int) false _ (Kd.C_drewN (Kd.F_now (Kd.F_grown HF.out HG.out (fun k hk e => hk (Option.some.inj e)))) _) HC.out (by rw [hq, CB.out])).mono ?_; clear hq; rintro e w2 ⟨rfl, ⟨nd, rfl⟩⟩) | (go_at_call 76; obtain ⟨q, hq⟩ := Ev.rounds (icross_ev l0 HW.out i k (by have := HN.out; have := HI.out; omega) (by have := HN.out; have := hkn.out; omega)); refine (impl_cross.calls q A0 c0 l0 (i : Int) (k : Int) false _ (Kd.C_drewN (Kd.F_now HE1.out.rd) _) HC0.out (by rw [hq, CC.out])).mono ?_; clear hq; rintro e w2 ⟨rfl, ⟨nd, rfl⟩⟩))
      go_roundw
      case rel => exact ⟨j + 1, k + 1, rfl, ⟨by rw [HK.out]; omega⟩, ⟨HLT.out⟩, ⟨grown_drewN HG.out _⟩, ⟨by rw [matchTo_succ, CA.out, ← HK.out, CB.out, CC.out]; exact HH.out⟩⟩
      case measure => have := hkn.out; simp [intOf]; omega
     | true =>
      have CC := Aside0.mk cc
      clear cc
      go_wp2_with (first | (go_at_call_of 120 (Value.int .i64 (i : Int)); obtain ⟨q, hq⟩ := Ev.rounds (contains_ev used (i : Int) (by omega)); refine (slices_Contains_int64_int64.calls q A c used (i : Int) false _ (Kd.F_now (Kd.F_grown HF.out HG.out (fun k hk e => hk (Option.some.inj e)))) HC.out (by rw [hq, CA.out])).mono ?_; clear hq; rintro e w2 ⟨rfl, ⟨nd, rfl⟩⟩) | (go_at_call_of 120 (Value.int .i64 (k : Int)); obtain ⟨q, hq⟩ := Ev.rounds (contains_ev used (k : Int) (by omega)); refine (slices_Contains_int64_int64.calls q A c used (k : Int) false _ (Kd.C_drewN (Kd.F_now (Kd.F_grown HF.out HG.out (fun k hk e => hk (Option.some.inj e)))) _) HC.out (by rw [hq, CB.out])).mono ?_; clear hq; rintro e w2 ⟨rfl, ⟨nd, rfl⟩⟩) | (go_at_call 76; obtain ⟨q, hq⟩ := Ev.rounds (icross_ev l0 HW.out i k (by have := HN.out; have := HI.out; omega) (by have := HN.out; have := hkn.out; omega)); refine (impl_cross.calls q A0 c0 l0 (i : Int) (k : Int) true _ (Kd.C_drewN (Kd.F_now HE1.out.rd) _) HC0.out (by rw [hq, CC.out])).mono ?_; clear hq; rintro e w2 ⟨rfl, ⟨nd, rfl⟩⟩))
      obtain ⟨i0, hi, hz0, hz1, hz2⟩ := info_parts info2
      have HFW := Aside0.mk (Kd.F_grown HF.out HG.out (fun k hk e => hk (Option.some.inj e)))
      have h3a : ∀ (q : Nat) (o : Obj), ((wr.drewN q).alloc o).cell? ⟨Bm, 0, none⟩ = some (.func (.func 133) #[] #[.pointer (some ⟨Bn, 0, none⟩), .pointer (some ⟨Bo, 0, none⟩), .pointer (some ⟨Bm, 0, none⟩), .pointer (some ⟨Bw, 0, none⟩)]) := fun q o => (HE1.out.grown (grown_alloc (grown_drewN (grown_refl _ _) q) o)).cm
      go_region_law (first
       | (refine goes_ Tryz.func134 (by kernel_rfl) rfl #[.slice A used.length c] (by rfl) rfl rfl (by simp [Act.eval, Act.put]) ?_; refine (slices_Clip_int64_int64.calls A used.length c _ HC.out).mono ?_; rintro e w2 ⟨rfl, rfl⟩; refine ⟨_, rfl, ?_⟩)
       | (refine step_append_full rfl (.tmp 52) (.tmp 55) 37 2 rfl Tryz.underlying37 info2 A used.length 2 wr.heap.size used [(i : Int), (k : Int)] ?p1 ?p2 ?p3 ?p4 rfl (by decide) ?p5 ?_; (case p1 => simp [Act.eval, Act.put]); (case p2 => simp [Act.eval, Act.put]); (case p3 => repeat (first | exact Kd.F_now HFW.out | (with_reducible refine Kd.C_alloc ?_ _) | (with_reducible refine Kd.C_drewN ?_ _) | (with_reducible refine Kd.C_drew ?_))); (case p4 => repeat (first | exact heap_alloc_new _ _ | (with_reducible refine blk_drewN ?_ _) | (with_reducible refine blk_drew ?_))); (case p5 => omega); intro v1 w2 ho2 hg2; obtain ⟨A2, c2, rfl, hl2, _⟩ := Kd.R_reads ho2; have HGN := Aside0.mk (grown_trans (show wr.grownBy _ none from by repeat (first | exact grown_refl _ _ | (with_reducible refine grown_alloc ?_ _) | (with_reducible refine grown_drewN ?_ _) | (with_reducible refine grown_drew ?_))) hg2); have HF2 := Aside0.mk (Kd.F_mono (ok' := fun k => k ≠ Br) (Kd.R_F ho2) (fun q hq e => by have := HE1.out.lt; subst e; simp at hq; omega)); have HL2 := Aside0.mk hl2; clear ho2 hg2 hl2; have h3b := (HE1.out.grown (grown_of_none HGN.out _)).cm)
       | (refine callv_ Tryz.func133 (by kernel_rfl) rfl #[.pointer (some ⟨Bn, 0, none⟩), .pointer (some ⟨Bo, 0, none⟩), .pointer (some ⟨Bm, 0, none⟩), .pointer (some ⟨Bw, 0, none⟩)] #[.int .i64 ((i + 1 : Nat) : Int), .slice A2 (used ++ [(i : Int), (k : Int)]).length c2] _ (by rfl) rfl rfl ?q1 ?q2 rfl ?_; (case q1 => simp [Act.eval, Act.put]); (case q2 => simp [Act.eval, Act.put]; exact W1.out); refine (HIH.out (i + 1) (used ++ [(i : Int), (k : Int)]) _ A2 c2 w2 (by have := HI.out; omega) (HE1.out.grown (grown_of_none HGN.out _)) (by rw [matchTo_len, HO.out]) ((HGN.out.block Br HE1.out.lt (by simp)).trans HH.out) (used_app HD.out CA.out CB.out (by have := HK.out; omega)) (mem_app HU.out (by have := HI.out; omega) hkn.out) HF2.out HL2.out).mono ?_; rintro e w3 ⟨rfl, hg3, hr3⟩; refine ⟨_, rfl, ?_⟩; have HG3 := Aside0.mk (grown_trans (grown_trans HG.out (grown_of_none HGN.out _)) hg3); have HR3 := Aside0.mk hr3; clear hg3 hr3))
      all_goals
       go_wp2
       go_roundw
       case rel => exact ⟨j + 1, k + 1, rfl, ⟨by rw [HK.out]; omega⟩, ⟨HLT.out⟩, ⟨HG3.out⟩, ⟨by rw [matchTo_succ, CA.out, ← HK.out, CB.out, CC.out]; exact HR3.out⟩⟩
       case measure => have := hkn.out; simp [intOf]; omega
set_option maxHeartbeats 8000000 in
set_option maxRecDepth 100000 in
theorem impl_matchings.calls (A0 : Option Addr) (c0 : Nat) (l0 : List Int) (r : List Int) (w : World) (hr0 : Kd.C (Kd.int .i64) w A0 l0.length l0) (hc0 : l0.length ≤ c0) (h : impl_matchings.f l0 = some r) :
  Calls Tryz.prog 71 #[.slice A0 l0.length c0] w fun e w' => ∃ v0_ : Value, e = .returned v0_ ∧ Kd.R (Kd.int .i64) 2 w' w.heap.size (fun _ => True) v0_ r ∧ Below w.heap.size w w' := by
 have hf : isW l0 = true ∧ r = matchV l0 := by
  unfold impl_matchings.f at h
  by_cases hk : isW l0 = true
  rotate_left
  ·rw [if_neg hk] at h; exact absurd h (by simp)
  rw [if_pos hk] at h; exact ⟨hk, (Option.some.inj h).symm⟩
 have hw := (isW_iff l0).1 hf.1
 have hle := hw.le
 have HW := Aside0.mk hw
 have HRR := Aside0.mk hf.2
 obtain ⟨n, hn⟩ : ∃ n, n = l0.length / 2 := ⟨_, rfl⟩
 have hch : impl_chords.f l0 = some (n : Int) := by rw [hn]; exact chords_f l0 hle
 obtain ⟨m, hm⟩ : ∃ m, m = n / 2 + 1 := ⟨_, rfl⟩
 have CH := Aside0.mk hch
 have HN := Aside0.mk hn
 have HM := Aside0.mk hm
 have hn6 : n ≤ 6 := by omega
 have hmk := make_ints (P := Tryz.prog) Tryz.underlying37 info2 ((n : Int) / 2 + 1) m (by omega) (by omega)
 have HR := Aside0.mk hr0
 have HC := Aside0.mk hc0
 clear hr0 hc0 h hf hw hle hch hn hm
 have hmf : ∀ (fn : Fn) (first cap : Array Value) (w : World), (Instr.makeFunc fn first cap).run Tryz.prog w = .ok (.func fn first cap) w := fun _ _ _ _ => rfl
 go_enter Tryz.func71, Tryz.ntmps71
 go_wp2_with (first | (go_at_call 115; refine (impl_chords.calls A0 c0 l0 _ _ (Kd.C_alloc HR.out _) HC.out CH.out).mono ?_; rintro e w' ⟨rfl, ⟨nd, rfl⟩⟩))
 refine (matchings_1 l0 HW.out A0 c0 n m (w.heap.size + 1) (w.heap.size + 1 + 1 + 1) (w.heap.size + 1 + 1 + 1 + 1) w.heap.size (w.heap.size + 1 + 1) HN.out HM.out HC.out n 0 [] (List.replicate m 0) none 0 _ (by omega) ?he (by simp) ?hh List.nodup_nil (by simp) (Kd.F_nil _ _ _) (Nat.le_refl _)).mono ?_
 case he =>
  exact ⟨cell1 (by repeat (first | exact new_at (by simp) | refine blk_alloc ?_ _ | refine blk_drewN ?_ _)), cell1 (by repeat (first | exact new_at (by simp) | refine blk_alloc ?_ _ | refine blk_drewN ?_ _)), cell1 (by repeat (first | exact new_at (by simp) | refine blk_alloc ?_ _ | refine blk_drewN ?_ _)), cell1 (by repeat (first | exact new_at (by simp) | refine blk_alloc ?_ _ | refine blk_drewN ?_ _)), by omega, by omega, by omega, by omega, by repeat (first | exact Kd.F_mono (F_of_C HR.out) (fun k hk => by omega) | refine Kd.F_alloc ?_ _ | refine Kd.F_drewN ?_ _), by simp⟩
 case hh => repeat (first | exact new_at (by simp) | refine blk_alloc ?_ _ | refine blk_drewN ?_ _)
 rintro e w2 ⟨rfl, hg, hr⟩
 have h2 := hg.cell (a := ⟨w.heap.size + 1 + 1 + 1, 0, none⟩) (v := .slice (some ⟨w.heap.size + 1 + 1, 0, none⟩) m m) (cell1 (by repeat (first | exact new_at (by simp) | refine blk_alloc ?_ _ | refine blk_drewN ?_ _))) (by simp)
 have HG := Aside0.mk hg
 have HH := Aside0.mk hr
 clear hg hr
 go_wp2
 go_ret
 refine ⟨_, rfl, ?_, ?_⟩
 ·have := HH.out
  rw [HRR.out, matchV, ← HN.out, ← HM.out]
  exact R_of_block this (by rw [matchW_len]; simp) (by have := HM.out; unfold maxLen; omega) (by omega)
 ·exact Go.Proofs.YtcnekpdoldljgaaGreat.Mem.below_grown (by repeat (first | exact Below.refl _ _ | apply below_alloc | apply pw_below_drewN)) HG.out (by omega)
end Go.Proofs.YtcnekpdoldljgaaGreat.F
end
section
namespace Go.Proofs.YtcnekpdoldljgaaGreat.F
open Go.RowKit Go.Proofs.YtcnekpdoldljgaaGreatW.PrintWords Go.Proofs.YtcnekpdoldljgaaGreatW.PrintLast Go.Proofs.YtcnekpdoldljgaaGreatW.PrintMore
attribute [local go_sem] max2_int min2_int max_two min_two max_three min_three max_four min_four   
set_option linter.unusedVariables false
set_option linter.unusedSimpArgs false
def impl_MatchingNumbers.f (k : Nat) (l0 : List Int) : Option (List Int × Int) := (impl_IsWord.f k l0).bind fun t => (if t = true then ((impl_matchings.f l0).bind fun t2 => (some (t2, 0))) else (some ([], 1)))
theorem impl_MatchingNumbers.mono : ∀ a0 k, LeO (impl_MatchingNumbers.f k a0) (impl_MatchingNumbers.f (k + 1) a0) := fun _ _ => LeO.bind (impl_IsWord.mono _ _) (fun _ => LeO.ite (LeO.bind (LeO.refl _) fun _ => LeO.refl _) (LeO.refl _))
set_option maxHeartbeats 8000000 in
set_option maxRecDepth 100000 in
theorem changedWord_MatchingNumbers.calls (k : Nat) (A0 : Option Addr) (c0 : Nat) (l0 : List Int) (r1 : List Int) (r2 : Int) (w : World) (hr0 : Kd.C (Kd.int .i64) w A0 l0.length l0) (hc0 : l0.length ≤ c0) (h : impl_MatchingNumbers.f k l0 = some (r1, r2)) :
    Calls Tryz.prog 56 #[.slice A0 l0.length c0, .func (.func 71) #[] #[]] w fun e w' => ∃ v0_ : Value, e = .returned (.tuple #[v0_, .int .i64 r2]) ∧ Kd.R (Kd.int .i64) 2 w' w.heap.size (fun _ => True) v0_ r1 ∧ Below w.heap.size w w' := by
  have HR := Aside0.mk hr0
  have HC := Aside0.mk hc0
  clear hr0 hc0
  unfold impl_MatchingNumbers.f at h
  obtain ⟨t, ht, h⟩ := Option.bind_eq_some_iff.1 h
  have HT := Aside0.mk ht
  clear ht
  cases t with
  | true =>
    rw [if_pos rfl] at h
    obtain ⟨t2, ht2, h⟩ := Option.bind_eq_some_iff.1 h
    have HG := Aside0.mk ht2
    simp only [Option.some.injEq, Prod.mk.injEq] at h
    obtain ⟨rfl, rfl⟩ := h
    clear ht2
    go_enter Tryz.func56, Tryz.ntmps56
    go_wp2_with (first
      | (go_at_call 61; refine (impl_IsWord.calls k A0 c0 l0 true _ HR.out HC.out HT.out).mono ?_; rintro e w1 ⟨rfl, hb1⟩; have HB1 := Aside0.mk hb1; clear hb1)
      | (go_at_call 71; refine (impl_matchings.calls A0 c0 l0 t2 _ (Kd.C_below HR.out HB1.out) HC.out HG.out).mono ?_; rintro e w2 ⟨v0, rfl, ho2, hb2⟩; have HO2 := Aside0.mk ho2; have HB2 := Aside0.mk hb2; clear ho2 hb2))
    go_ret2
    exact ⟨_, rfl, Kd.R_lower HO2.out (below_size HB1.out), below_step HB1.out HB2.out⟩
  | false =>
    rw [if_neg (by simp)] at h
    simp only [Option.some.injEq, Prod.mk.injEq] at h
    obtain ⟨rfl, rfl⟩ := h
    go_enter Tryz.func56, Tryz.ntmps56
    go_wp2_with (first
      | (go_at_call 61; refine (impl_IsWord.calls k A0 c0 l0 false _ HR.out HC.out HT.out).mono ?_; rintro e w1 ⟨rfl, hb1⟩; have HB1 := Aside0.mk hb1; clear hb1))
    go_ret2
    exact ⟨_, rfl, Kd.R_nil _ _ _ _ _, HB1.out⟩
set_option maxHeartbeats 8000000 in
set_option maxRecDepth 100000 in
theorem impl_MatchingNumbers.calls (k : Nat) (A0 : Option Addr) (c0 : Nat) (l0 : List Int) (r1 : List Int) (r2 : Int) (w : World) (hr0 : Kd.C (Kd.int .i64) w A0 l0.length l0) (hc0 : l0.length ≤ c0) (h : impl_MatchingNumbers.f k l0 = some (r1, r2)) :
    Calls Tryz.prog 26 #[.slice A0 l0.length c0] w fun e w' => ∃ v0_ : Value, e = .returned (.tuple #[v0_, .int .i64 r2]) ∧ Kd.R (Kd.int .i64) 2 w' w.heap.size (fun _ => True) v0_ r1 ∧ Below w.heap.size w w' := by
  have HR := Aside0.mk hr0
  have HC := Aside0.mk hc0
  have HF := Aside0.mk h
  clear hr0 hc0 h
  go_enter Tryz.func26, Tryz.ntmps26
  go_wp2_with (first
    | (go_at_call 56; refine (changedWord_MatchingNumbers.calls k A0 c0 l0 r1 r2 _ HR.out HC.out HF.out).mono ?_; rintro e w2 ⟨v0, rfl, ho2, hb2⟩; have HO2 := Aside0.mk ho2; have HB2 := Aside0.mk hb2; clear ho2 hb2))
  go_ret2
  exact ⟨_, rfl, HO2.out, HB2.out⟩
end Go.Proofs.YtcnekpdoldljgaaGreat.F
end
section
namespace Go.Proofs.YtcnekpdoldljgaaGreat.F
open Go.RowKit Go.Proofs.YtcnekpdoldljgaaGreatW.PrintWords Go.Proofs.YtcnekpdoldljgaaGreatW.PrintLast Go.Proofs.YtcnekpdoldljgaaGreatW.PrintMore
attribute [local go_sem] max2_int min2_int max_two min_two max_three min_three max_four min_four   
set_option linter.unusedVariables false
set_option linter.unusedSimpArgs false
mutual
def spec_l10Match.j1 : Nat → List (List Int) → Int → Int → Int → List Int → Option (List Int)
 | 0, _, _, _, _, _ => none
 | k + 1, x0, x1, x2, x3, x4 => if x1 ≥ (x0.length : Int) then (if 0 ≤ x3 then (if x3 < (x4.length : Int) then (some (x4.set (x3 : Int).toNat (wrap64 ((rd x4 x3) + 1)))) else (none)) else (none)) else ((spec_l10Match.f k x0 (wrap64 (x1 + 1)) x2 x3 x4).bind fun t721003 => (spec_l10Match.l1 k x0 x1 x2 x3 t721003 (wrap64 (x1 + 1))))
def spec_l10Match.l1 : Nat → List (List Int) → Int → Int → Int → List Int → Int → Option (List Int)
 | 0, _, _, _, _, _, _ => none
 | k + 1, x0, x1, x2, x3, x4, x10 => if x10 < (x0.length : Int) then (if 0 ≤ x1 then (if x1 < (x0.length : Int) then (if 0 ≤ x10 then (if x10 < ((rd_L1 x0 x1).length : Int) then (if (rd (rd_L1 x0 x1) x10) = 1 then (if 0 ≤ (IntKind.u64.wrap (x10)) then (if (Go.bits .and .i64 (shr .i64 x2 (IntKind.u64.wrap (x10))) 1) = 0 then ((spec_l10Match.f k x0 (wrap64 (x1 + 1)) (Go.bits .or .i64 x2 (shl .i64 1 (IntKind.u64.wrap (x10)))) (wrap64 (x3 + 1)) x4).bind fun t721006 => (spec_l10Match.l1 k x0 x1 x2 x3 t721006 (wrap64 (x10 + 1)))) else (spec_l10Match.l1 k x0 x1 x2 x3 x4 (wrap64 (x10 + 1)))) else (none)) else (spec_l10Match.l1 k x0 x1 x2 x3 x4 (wrap64 (x10 + 1)))) else (none)) else (none)) else (none)) else (none)) else (some x4)
def spec_l10Match.l0 : Nat → List (List Int) → Int → Int → Int → List Int → Option (List Int)
 | 0, _, _, _, _, _ => none
 | k + 1, x0, x1, x2, x3, x4 => if x1 < (x0.length : Int) then (if 0 ≤ (IntKind.u64.wrap (x1)) then (if (Go.bits .and .i64 (shr .i64 x2 (IntKind.u64.wrap (x1))) 1) = 1 then (spec_l10Match.l0 k x0 (wrap64 (x1 + 1)) x2 x3 x4) else (spec_l10Match.j1 k x0 x1 x2 x3 x4)) else (none)) else (spec_l10Match.j1 k x0 x1 x2 x3 x4)
def spec_l10Match.f : Nat → List (List Int) → Int → Int → Int → List Int → Option (List Int)
 | 0, _, _, _, _, _ => none
 | k + 1, l0, a1, a2, a3, l4 => spec_l10Match.l0 k l0 a1 a2 a3 l4
end
theorem spec_l10Match.mono_l : ∀ k, (∀ y0 y1 y2 y3 y4, LeO (spec_l10Match.f k y0 y1 y2 y3 y4) (spec_l10Match.f (k + 1) y0 y1 y2 y3 y4)) ∧ (∀ y0 y1 y2 y3 y4, LeO (spec_l10Match.j1 k y0 y1 y2 y3 y4) (spec_l10Match.j1 (k + 1) y0 y1 y2 y3 y4)) ∧ (∀ y0 y1 y2 y3 y4 y5, LeO (spec_l10Match.l1 k y0 y1 y2 y3 y4 y5) (spec_l10Match.l1 (k + 1) y0 y1 y2 y3 y4 y5)) ∧ (∀ y0 y1 y2 y3 y4, LeO (spec_l10Match.l0 k y0 y1 y2 y3 y4) (spec_l10Match.l0 (k + 1) y0 y1 y2 y3 y4))
 | 0 => ⟨fun _ _ _ _ _ r h => by simp [spec_l10Match.f] at h, fun _ _ _ _ _ r h => by simp [spec_l10Match.j1] at h, fun _ _ _ _ _ _ r h => by simp [spec_l10Match.l1] at h, fun _ _ _ _ _ r h => by simp [spec_l10Match.l0] at h⟩
 | k + 1 => by
  obtain ⟨ih0, ih1, ih2, ih3⟩ := spec_l10Match.mono_l k
  refine ⟨?_, ?_, ?_, ?_⟩
  ·intro y0 y1 y2 y3 y4
   unfold spec_l10Match.f
   repeat' first
   | (with_reducible exact ih0 _ _ _ _ _)
   | (with_reducible exact ih1 _ _ _ _ _)
   | (with_reducible exact ih2 _ _ _ _ _ _)
   | (with_reducible exact ih3 _ _ _ _ _)
   | (with_reducible exact LeO.refl _)
   | (with_reducible exact LeO.none _)
   | (with_reducible refine LeO.ite ?_ ?_)
   | (with_reducible refine LeO.bind ?_ (fun _ => ?_))
   | exact ih0 _ _ _ _ _
   | exact ih1 _ _ _ _ _
   | exact ih2 _ _ _ _ _ _
   | exact ih3 _ _ _ _ _
   | exact LeO.none _
   | refine LeO.ite ?_ ?_
   | refine LeO.bind ?_ (fun _ => ?_)
  ·intro y0 y1 y2 y3 y4
   unfold spec_l10Match.j1
   repeat' first
   | (with_reducible exact ih0 _ _ _ _ _)
   | (with_reducible exact ih1 _ _ _ _ _)
   | (with_reducible exact ih2 _ _ _ _ _ _)
   | (with_reducible exact ih3 _ _ _ _ _)
   | (with_reducible exact LeO.refl _)
   | (with_reducible exact LeO.none _)
   | (with_reducible refine LeO.ite ?_ ?_)
   | (with_reducible refine LeO.bind ?_ (fun _ => ?_))
   | exact ih0 _ _ _ _ _
   | exact ih1 _ _ _ _ _
   | exact ih2 _ _ _ _ _ _
   | exact ih3 _ _ _ _ _
   | exact LeO.none _
   | refine LeO.ite ?_ ?_
   | refine LeO.bind ?_ (fun _ => ?_)
  ·intro y0 y1 y2 y3 y4 y5
   unfold spec_l10Match.l1
   repeat' first
   | (with_reducible exact ih0 _ _ _ _ _)
   | (with_reducible exact ih1 _ _ _ _ _)
   | (with_reducible exact ih2 _ _ _ _ _ _)
   | (with_reducible exact ih3 _ _ _ _ _)
   | (with_reducible exact LeO.refl _)
   | (with_reducible exact LeO.none _)
   | (with_reducible refine LeO.ite ?_ ?_)
   | (with_reducible refine LeO.bind ?_ (fun _ => ?_))
   | exact ih0 _ _ _ _ _
   | exact ih1 _ _ _ _ _
   | exact ih2 _ _ _ _ _ _
   | exact ih3 _ _ _ _ _
   | exact LeO.none _
   | refine LeO.ite ?_ ?_
   | refine LeO.bind ?_ (fun _ => ?_)
  ·intro y0 y1 y2 y3 y4
   unfold spec_l10Match.l0
   repeat' first
   | (with_reducible exact ih0 _ _ _ _ _)
   | (with_reducible exact ih1 _ _ _ _ _)
   | (with_reducible exact ih2 _ _ _ _ _ _)
   | (with_reducible exact ih3 _ _ _ _ _)
   | (with_reducible exact LeO.refl _)
   | (with_reducible exact LeO.none _)
   | (with_reducible refine LeO.ite ?_ ?_)
   | (with_reducible refine LeO.bind ?_ (fun _ => ?_))
   | exact ih0 _ _ _ _ _
   | exact ih1 _ _ _ _ _
   | exact ih2 _ _ _ _ _ _
   | exact ih3 _ _ _ _ _
   | exact LeO.none _
   | refine LeO.ite ?_ ?_
   | refine LeO.bind ?_ (fun _ => ?_)
theorem spec_l10Match.mono : ∀ a0 a1 a2 a3 a4 k, LeO (spec_l10Match.f k a0 a1 a2 a3 a4) (spec_l10Match.f (k + 1) a0 a1 a2 a3 a4) := by
 intro a0 a1 a2 a3 a4 k
 obtain ⟨ih0, ih1, ih2, ih3⟩ := spec_l10Match.mono_l k
 exact ih0 a0 a1 a2 a3 a4
set_option maxHeartbeats 8000000 in
set_option maxRecDepth 100000 in
theorem spec_l10Match.calls (k : Nat) : ∀ (A0 : Option Addr) (c0 : Nat) (l0 : List (List Int)) (a1 : Int) (a2 : Int) (a3 : Int) (P4_ : Nat → Prop) (u9000_ : Value) (l4 : List Int) (r : List Int) (w0 w : World) (hB : Below w0.heap.size w0 w) (hr0 : ∀ W_, Kept w W_ (fun k_ => P4_ k_) → Kd.C (Kd.slice 2 (Kd.int .i64)) W_ A0 l0.length l0) (hc0 : l0.length ≤ c0) (ho4 : Kd.R (Kd.int .i64) 2 w w0.heap.size P4_ u9000_ l4) (h : spec_l10Match.f k l0 a1 a2 a3 l4 = some r),
  Calls Tryz.prog 72 #[.slice A0 l0.length c0, .int .i64 a1, .int .i64 a2, .int .i64 a3, u9000_] w fun e w' => e = .returned (.tuple #[]) ∧ Kd.R (Kd.int .i64) 2 w' w0.heap.size (fun k_ => (P4_ k_ ∨ w.heap.size ≤ k_)) u9000_ r ∧ Below w0.heap.size w0 w' ∧ Kept w w' (fun k_ => P4_ k_) := by
 induction k using Nat.strongRecOn with
 | _ k ih =>
 intro A0 c0 l0 a1 a2 a3 P4_ u9000_ l4 r w0 w hB hr0 hc0 ho4 h
 cases k with
 | zero => exact absurd h (by simp [spec_l10Match.f])
 | succ k =>
 simp only [spec_l10Match.f] at h
 have HR0 := Aside0.mk hr0
 have HC0 := Aside0.mk hc0
 clear hr0 hc0
 have HO4 := Aside0.mk (show Kd.R (Kd.int .i64) 2 w w0.heap.size (fun k_ => (P4_ k_ ∨ w.heap.size ≤ k_)) u9000_ l4 from Kd.R_mono ho4 (fun k_ hk => (.inl hk)))
 have HK := Aside0.mk (Kept.refl w (fun k_ => P4_ k_))
 have HW0 := Aside0.mk hB.size
 have HB := Aside0.mk hB
 clear hB
 have H : (spec_l10Match.l0 k l0 a1 a2 a3 l4) = some r := h
 clear h
 have HC6 := Aside0.mk H
 clear H
 go_enter Tryz.func72, Tryz.ntmps72
 go_upto_block 0 with (fail)
 go_cut [1] (fun v1 wc => ∃ (kq : Nat) (x1_5 : Int), v1 = .int .i64 x1_5 ∧ Aside0 (spec_l10Match.j1 kq l0 x1_5 a2 a3 l4 = some r) ∧ Aside0 (kq ≤ k) ∧ Aside0 (Kd.R (Kd.int .i64) 2 wc w0.heap.size (fun k_ => (P4_ k_ ∨ w.heap.size ≤ k_)) u9000_ l4) ∧ Aside0 (Kept w wc (fun k_ => P4_ k_)) ∧ Aside0 (Below w0.heap.size w0 wc))
 case first =>
  have H := HC6.out
  clear HC6
  have H' := Aside0.mk H
  clear H
  go_wp2
  go_loopg [1] k (fun kq v1 w' => ∃ (x1_1 : Int), v1 = .int .i64 x1_1 ∧ Aside0 (spec_l10Match.l0 kq l0 x1_1 a2 a3 l4 = some r) ∧ Aside0 (kq ≤ k) ∧ Aside0 (Kd.R (Kd.int .i64) 2 w' w0.heap.size (fun k_ => (P4_ k_ ∨ w.heap.size ≤ k_)) u9000_ l4) ∧ Aside0 (Kept w w' (fun k_ => P4_ k_)) ∧ Aside0 (Below w0.heap.size w0 w'))
  case atStart => exact ⟨(a1), (by first | rfl | (simp; done) | (simp [*]; done)), H', ⟨Nat.le_refl _⟩, ⟨by (with_reducible repeat (first | apply Kd.R_alloc | apply Kd.R_drewN | apply Kd.R_drew)); exact HO4.out⟩, ⟨by repeat (first | (with_reducible first | exact HK.out | apply Kept.alloc | apply Kept.drewN | apply Kept.drew) | exact HK.out)⟩, ⟨by repeat (first | (with_reducible first | exact HB.out | apply below_alloc | apply pw_below_drewN | apply below_drew1) | exact HB.out)⟩⟩
  case round =>
   clear H'
   try clear p2
   obtain ⟨x1_1, rfl, HA, HK1, HO_4, HK, HB⟩ := hrel
   cases gk with
   | zero => exact absurd HA.out (by simp [spec_l10Match.l0])
   | succ k1 =>
    have H := HA.out
    clear HA
    simp only [spec_l10Match.l0] at H
    by_cases c7 : x1_1 < (l0.length : Int)
    rotate_left
    ·rw [if_neg c7] at H
     have c7b0 : decide (x1_1 < (l0.length : Int)) = false := decide_eq_false c7
     clear c7
     (first | rw [c7b0] | (simp only [i64_w, i32_w]; rw [c7b0]) | skip)
     have H' := Aside0.mk H
     clear H
     go_wp2
     go_meet
     case rel => exact ⟨_, (x1_1), (by first | rfl | (simp; done) | (simp [*]; done)), H', ⟨by have := HK1.out; first | omega | exact Nat.le_refl _⟩, ⟨by (with_reducible repeat (first | apply Kd.R_alloc | apply Kd.R_drewN | apply Kd.R_drew)); exact HO_4.out⟩, ⟨by repeat (first | (with_reducible first | exact HK.out | apply Kept.alloc | apply Kept.drewN | apply Kept.drew) | exact HK.out)⟩, ⟨by repeat (first | (with_reducible first | exact HB.out | apply below_alloc | apply pw_below_drewN | apply below_drew1) | exact HB.out)⟩⟩
    rw [if_pos c7] at H
    have c7b0 : decide (x1_1 < (l0.length : Int)) = true := decide_eq_true c7
    clear c7
    (first | rw [c7b0] | (simp only [i64_w, i32_w]; rw [c7b0]) | skip)
    obtain ⟨ji8, hji8⟩ : ∃ j_ : Int, (IntKind.u64.wrap (x1_1)) = j_ := ⟨_, rfl⟩
    replace H : (if 0 ≤ (ji8) then (if (Go.bits .and .i64 (shr .i64 a2 (ji8)) 1) = 1 then (spec_l10Match.l0 k1 l0 (wrap64 (x1_1 + 1)) a2 a3 l4) else (spec_l10Match.j1 k1 l0 x1_1 a2 a3 l4)) else (none)) = some r := by first | (rw [hji8] at H; exact H) | (simp only [hji8] at H ⊢; exact H)
    by_cases c9 : 0 ≤ (ji8)
    rotate_left
    ·rw [if_neg c9] at H
     exact absurd H (by simp)
    rw [if_pos c9] at H
    have c9b0 := eq_true c9
    have c9b1 : decide (0 ≤ (ji8)) = true := decide_eq_true c9
    clear c9
    obtain ⟨ji10, hji10⟩ : ∃ j_ : Int, (shr .i64 a2 (ji8)) = j_ := ⟨_, rfl⟩
    replace H : (if (Go.bits .and .i64 (ji10) 1) = 1 then (spec_l10Match.l0 k1 l0 (wrap64 (x1_1 + 1)) a2 a3 l4) else (spec_l10Match.j1 k1 l0 x1_1 a2 a3 l4)) = some r := by first | (rw [hji10] at H; exact H) | (simp only [hji10] at H ⊢; exact H)
    have hji10_ : (a2 / 2 ^ min (ji8).toNat 64) = ji10 := hji10
    have hji10z : (ji8) ≤ 64 → (a2 / 2 ^ (ji8).toNat) = ji10 := shr_small hji10
    by_cases c11 : (Go.bits .and .i64 (ji10) 1) = 1
    rotate_left
    ·rw [if_neg c11] at H
     have c11b0 : ((Go.bits .and .i64 (ji10) 1) == 1) = false := beq_eq_false_iff_ne.mpr c11
     have c11b1 : ((Go.bits .and .i64 (ji10) 1) != 1) = true := bne_iff_ne.mpr c11
     have H' := Aside0.mk H
     clear H
     go_wp2
     go_meet
     case rel => exact ⟨_, (x1_1), (by first | rfl | (simp; done) | (simp [*]; done)), H', ⟨by have := HK1.out; first | omega | exact Nat.le_refl _⟩, ⟨by (with_reducible repeat (first | apply Kd.R_alloc | apply Kd.R_drewN | apply Kd.R_drew)); exact HO_4.out⟩, ⟨by repeat (first | (with_reducible first | exact HK.out | apply Kept.alloc | apply Kept.drewN | apply Kept.drew) | exact HK.out)⟩, ⟨by repeat (first | (with_reducible first | exact HB.out | apply below_alloc | apply pw_below_drewN | apply below_drew1) | exact HB.out)⟩⟩
    rw [if_pos c11] at H
    have c11b0 : ((Go.bits .and .i64 (ji10) 1) == 1) = true := beq_iff_eq.mpr c11
    have c11b1 : ((Go.bits .and .i64 (ji10) 1) != 1) = false := bne_eq_false_iff_eq.mpr c11
    clear c11
    have H' := Aside0.mk H
    clear H
    go_wp2
    go_roundg k1
    case measure => have := HK1.out; omega
    case rel => exact ⟨(wrap64 (x1_1 + 1)), (by first | rfl | (simp; done) | (simp [*]; done)), H', ⟨by have := HK1.out; omega⟩, ⟨by (with_reducible repeat (first | apply Kd.R_alloc | apply Kd.R_drewN | apply Kd.R_drew)); exact HO_4.out⟩, ⟨by repeat (first | (with_reducible first | exact HK.out | apply Kept.alloc | apply Kept.drewN | apply Kept.drew) | exact HK.out)⟩, ⟨by repeat (first | (with_reducible first | exact HB.out | apply below_alloc | apply pw_below_drewN | apply below_drew1) | exact HB.out)⟩⟩
 case rest =>
  clear HC6
  try clear c1
  try clear p2
  try clear p6
  try clear c7
  try clear c7b0
  try clear c9
  try clear c9b0
  try clear c9b1
  try clear c11
  try clear c11b0
  try clear c11b1
  try clear p2
  obtain ⟨kq, x1_5, rfl, HA, HJ5, HO_4, HK, HB⟩ := hcut
  cases kq with
  | zero => exact absurd HA.out (by simp [spec_l10Match.j1])
  | succ kj5 =>
   have H := HA.out
   clear HA
   simp only [spec_l10Match.j1] at H
   by_cases c12 : x1_5 ≥ (l0.length : Int)
   ·rw [if_pos c12] at H
    have c12b0 : decide ((l0.length : Int) ≤ x1_5) = true := decide_eq_true c12
    clear c12
    by_cases c13 : 0 ≤ a3
    rotate_left
    ·rw [if_neg c13] at H
     exact absurd H (by simp)
    rw [if_pos c13] at H
    have c13b0 : decide (0 ≤ a3) = true := decide_eq_true c13
    clear c13
    by_cases c14 : a3 < (l4.length : Int)
    rotate_left
    ·rw [if_neg c14] at H
     exact absurd H (by simp)
    rw [if_pos c14] at H
    have c14b0 : decide (a3 < (l4.length : Int)) = true := decide_eq_true c14
    clear c14
    obtain ⟨y721002, hy721002⟩ : ∃ y_ : List Int, y_ = (l4.set (a3 : Int).toNat (wrap64 ((rd l4 a3) + 1))) := ⟨_, rfl⟩
    replace H : (some y721002) = some r := by first | (rw [hy721002]; with_reducible exact H) | (have H2_ := (Option.bind_some _ _).symm.trans H; rw [hy721002]; with_reducible exact H2_) | (have H2_ := (Option.bind_some _ _).symm.trans H; with_reducible exact H2_) | with_reducible exact H | (rw [hy721002]; exact H) | exact H
    have Ny721002 := Aside0.mk hy721002
    clear hy721002
    obtain rfl := Option.some.inj H
    obtain ⟨Ao16, co16, eo16⟩ := Kd.R_slice HO_4.out
    subst eo16
    have p721001 : 0 ≤ (a3 : Int) := of_decide_eq_true (by first | (with_reducible assumption) | assumption)
    have q721001 : a3 < (l4.length : Int) := of_decide_eq_true (by first | (with_reducible assumption) | assumption)
    obtain ⟨ad721001, e721001, hx721001_0⟩ := Kd.at_int (Kd.R_reads' HO_4.out).2.2 a3 p721001 q721001
    cases e721001
    replace p721001 := eq_true p721001
    replace q721001 := eq_true q721001
    have p15 : 0 ≤ (a3 : Int) := of_decide_eq_true (by first | (with_reducible assumption) | assumption)
    have q15 : (a3 : Int) < ((l4.length : Int) : Int) := of_decide_eq_true (by first | (with_reducible assumption) | assumption)
    obtain ⟨go15, co15, eo15, gb15, gl15, cl15, HG15⟩ := Kd.R_form HO_4.out (by omega)
    (first | cases eo15 | (injection eo15 with ea_ en_ ec_; (first | subst ea_ | (injection ea_ with ea_; subst ea_)); subst ec_; clear en_))
    have GB15 := Aside0.mk gb15
    have GG15 := Aside0.mk HG15
    clear gb15 gl15 HG15
    have HMgo15 := Aside0.mk (show (P4_ go15 ∨ w.heap.size ≤ go15) from (HO_4.out.1 _ rfl))
    (first | simp only [add_plain] at hx721001_0 | skip)
    obtain ⟨hx15_0, hf15_0⟩ := Kd.R_celln 0 HO_4.out (a3 : Int) p15 q15
    replace p15 := eq_true p15
    replace q15 := eq_true q15
    have HP17 := Kd.R_putg HO_4.out (a3 : Int) (wrap64 ((rd l4 a3) + 1))
    go_wp2_with (first | ((with_reducible refine gate_store (t := 2) (p := 34) rfl ?_); refine store_event (t := 2) (p := 34) (v := ?vo_w18) (w1 := (wc.setCell ⟨go15, (a3 : Int).toNat, none⟩ (.int .i64 (wrap64 ((rd l4 a3) + 1))))) ?hg ?ho ?hn ?hr ?_; (case ho => rfl); (case hg => rfl); (case hn => rfl); (case hr => first | (go_simp; done) | (go_simp; rfl)); intro w18 hw; have hg : wc.grownBy w18 (some go15) := (by rw [hw]; exact HP17.2); have hp_ : Kd.R (Kd.int .i64) 2 w18 w0.heap.size (fun k_ => (P4_ k_ ∨ w.heap.size ≤ k_)) (.slice (some ⟨go15, 0, none⟩) l4.length co16) y721002 := (by rw [hw, Ny721002.out]; exact HP17.1); clear HP17; have n0_ := Aside0.mk (hp_); have n1_ := Aside0.mk ((by rw [hw]; exact below_set (HB.out) GB15.out : Below w0.heap.size w0 w18)); have n2_ := Aside0.mk (Kept.of_grown (S := (fun k_ => P4_ k_)) hg (by repeat (first | (with_reducible first | exact HK.out | apply Kept.alloc | apply Kept.drewN | apply Kept.drew) | exact HK.out)) (fun k_ e_ => (HO_4.out.1 k_ e_))); clear HO_4; clear HB; clear HK; have HO_4 := n0_; have HB := n1_; have HK := n2_; clear n0_ n1_ n2_; clear hg hw hp_))
    first | go_end0 | ((try simp only [Exit.inBlock, Exit.then]); refine bodyPost_ret (results_none rfl _ _ _) rfl ?_)
    exact ⟨by first | rfl | (simp [errW_none, errW_some] <;> rfl) | (simp [*, errW_none, errW_some] <;> rfl), by (with_reducible repeat (first | apply Kd.R_alloc | apply Kd.R_drewN | apply Kd.R_drew)); exact HO_4.out, by repeat (first | (with_reducible first | exact HB.out | apply below_alloc | apply pw_below_drewN | apply below_drew1) | exact HB.out), by repeat (first | (with_reducible first | exact HK.out | apply Kept.alloc | apply Kept.drewN | apply Kept.drew) | exact HK.out)⟩
   rw [if_neg c12] at H
   have c12b0 : decide ((l0.length : Int) ≤ x1_5) = false := decide_eq_false c12
   clear c12
   replace H := Option.bind_eq_some_iff.mp H
   obtain ⟨t721003, A190, H⟩ := H
   replace H : (spec_l10Match.l1 kj5 l0 x1_5 a2 a3 t721003 (wrap64 (x1_5 + 1))) = some r := H
   have A19 := Aside0.mk A190
   clear A190
   have H' := Aside0.mk H
   clear H
   obtain ⟨Ao20, co20, eo20⟩ := Kd.R_slice HO_4.out
   subst eo20
   go_wp2_with (first | ((with_reducible refine gate_callee (f := 72) rfl ?_); refine goesL_ (some 41) rfl rfl Tryz.func72 (by kernel_rfl) rfl #[.slice A0 l0.length c0, .int .i64 (wrap64 (x1_5 + 1)), .int .i64 a2, .int .i64 a3, .slice Ao20 l4.length co20] rfl (by (try simp only [List.map_toArray, List.map_cons, List.map_nil]); first | done | rfl | (simp only [List.length_drop, List.length_take]; rfl)) ?_; (with_reducible refine (ih kj5 (by have := HJ5.out; omega) _ _ l0 (wrap64 (x1_5 + 1)) a2 a3 (fun k_ => some k_ = (.slice Ao20 l4.length co20 : Value).ownBlock) (.slice Ao20 l4.length co20) l4 t721003 w0 _ ?side1 ?side2 ?side3 ?side4 A19.out).mono ?_); (case side1 => repeat (first | (with_reducible first | exact HB.out | apply below_alloc | apply pw_below_drewN | apply below_drew1) | exact HB.out)); (case side2 => exact Kd.C_kept_call HR0.out (by repeat (first | (with_reducible first | exact HK.out | apply Kept.alloc | apply Kept.drewN | apply Kept.drew) | exact HK.out)) (fun k_ hs_ => (fun e_ => (HO_4.out.1 k_ e_.symm)) hs_)); (case side3 => exact HC0.out); (case side4 => exact Kd.R_tight rfl HO_4.out); rintro e w21 ⟨rfl, hy0, hb, hkp⟩; refine ⟨_, rfl, ?_⟩; have n0_ := Aside0.mk (Kd.R_reok rfl hy0 (fun k_ e_ => HO_4.out.1 k_ e_)); have n1_ := Aside0.mk (Kept.then_ (S := (fun k_ => P4_ k_)) (by repeat (first | (with_reducible first | exact HK.out | apply Kept.alloc | apply Kept.drewN | apply Kept.drew) | exact HK.out)) hkp (fun k_ hs_ => (fun e_ => (HO_4.out.1 k_ e_.symm)) hs_)); have n2_ := Aside0.mk (hb); clear HO_4; clear HK; clear HB; have HO_4 := n0_; have HK := n1_; have HB := n2_; clear n0_ n1_ n2_; (try clear hb); (try clear hkp); (try clear hy0)))
   go_loopg [10] kj5 (fun kq v10 w' => ∃ (x4_2 : List Int) (x10_2 : Int), v10 = .int .i64 x10_2 ∧ Aside0 (spec_l10Match.l1 kq l0 x1_5 a2 a3 x4_2 x10_2 = some r) ∧ Aside0 (kq ≤ kj5) ∧ Aside0 (Kd.R (Kd.int .i64) 2 w' w0.heap.size (fun k_ => (P4_ k_ ∨ w.heap.size ≤ k_)) (.slice Ao20 l4.length co20) x4_2) ∧ Aside0 (Kept w w' (fun k_ => P4_ k_)) ∧ Aside0 (Below w0.heap.size w0 w'))
   case atStart => exact ⟨(t721003), (wrap64 (x1_5 + 1)), (by first | rfl | (simp; done) | (simp [*]; done)), H', ⟨Nat.le_refl _⟩, ⟨by (with_reducible repeat (first | apply Kd.R_alloc | apply Kd.R_drewN | apply Kd.R_drew)); exact HO_4.out⟩, ⟨by repeat (first | (with_reducible first | exact HK.out | apply Kept.alloc | apply Kept.drewN | apply Kept.drew) | exact HK.out)⟩, ⟨by repeat (first | (with_reducible first | exact HB.out | apply below_alloc | apply pw_below_drewN | apply below_drew1) | exact HB.out)⟩⟩
   case round =>
    clear H'
    try clear c1
    try clear p1
    try clear q1
    try clear hx1
    try clear p2
    try clear p6
    try clear c7
    try clear c7b0
    try clear p7
    try clear q7
    try clear hx7
    try clear c9
    try clear c9b0
    try clear c9b1
    try clear c11
    try clear c11b0
    try clear c11b1
    try clear c12
    try clear c12b0
    try clear c13
    try clear c13b0
    try clear c14
    try clear c14b0
    try clear p15
    try clear q15
    try clear hx15
    try clear hf15
    try clear hx15_0
    try clear hx721001_0
    try clear p15
    try clear p2
    try clear p6
    try clear p721001
    try clear q15
    try clear q721001
    obtain ⟨x4_2, x10_2, rfl, HA, HK2, HO_4, HK, HB⟩ := hrel
    have hl4_2 := (Kd.R_reads' HO_4.out).1
    rw [hl4_2] at HO_4
    (try simp only [hl4_2])
    cases gk with
    | zero => exact absurd HA.out (by simp [spec_l10Match.l1])
    | succ k2 =>
     have H := HA.out
     clear HA
     simp only [spec_l10Match.l1] at H
     by_cases c22 : x10_2 < (l0.length : Int)
     rotate_left
     ·rw [if_neg c22] at H
      have c22b0 : decide (x10_2 < (l0.length : Int)) = false := decide_eq_false c22
      clear c22
      obtain rfl := Option.some.inj H
      go_wp2
      first | go_end0 | ((try simp only [Exit.inBlock, Exit.then]); refine bodyPost_ret (results_none rfl _ _ _) rfl ?_)
      exact ⟨by first | rfl | (simp [errW_none, errW_some] <;> rfl) | (simp [*, errW_none, errW_some] <;> rfl), (by first | exact (by (with_reducible repeat (first | apply Kd.R_alloc | apply Kd.R_drewN | apply Kd.R_drew)); exact HO_4.out) | (simp only [hl4_2]; exact (by (with_reducible repeat (first | apply Kd.R_alloc | apply Kd.R_drewN | apply Kd.R_drew)); exact HO_4.out))), by repeat (first | (with_reducible first | exact HB.out | apply below_alloc | apply pw_below_drewN | apply below_drew1) | exact HB.out), by repeat (first | (with_reducible first | exact HK.out | apply Kept.alloc | apply Kept.drewN | apply Kept.drew) | exact HK.out)⟩
     rw [if_pos c22] at H
     have c22b0 : decide (x10_2 < (l0.length : Int)) = true := decide_eq_true c22
     clear c22
     by_cases c23 : 0 ≤ x1_5
     rotate_left
     ·rw [if_neg c23] at H
      exact absurd H (by simp)
     rw [if_pos c23] at H
     have c23b0 : decide (0 ≤ x1_5) = true := decide_eq_true c23
     clear c23
     by_cases c24 : x1_5 < (l0.length : Int)
     rotate_left
     ·rw [if_neg c24] at H
      exact absurd H (by simp)
     rw [if_pos c24] at H
     have c24b0 : decide (x1_5 < (l0.length : Int)) = true := decide_eq_true c24
     clear c24
     by_cases c25 : 0 ≤ x10_2
     rotate_left
     ·rw [if_neg c25] at H
      exact absurd H (by simp)
     rw [if_pos c25] at H
     have c25b0 : decide (0 ≤ x10_2) = true := decide_eq_true c25
     clear c25
     by_cases c26 : x10_2 < ((rd_L1 l0 x1_5).length : Int)
     rotate_left
     ·rw [if_neg c26] at H
      exact absurd H (by simp)
     rw [if_pos c26] at H
     have c26b0 : decide (x10_2 < ((rd_L1 l0 x1_5).length : Int)) = true := decide_eq_true c26
     clear c26
     by_cases c27 : (rd (rd_L1 l0 x1_5) x10_2) = 1
     rotate_left
     ·rw [if_neg c27] at H
      have c27b0 : ((rd (rd_L1 l0 x1_5) x10_2) == 1) = false := beq_eq_false_iff_ne.mpr c27
      have c27b1 : ((rd (rd_L1 l0 x1_5) x10_2) != 1) = true := bne_iff_ne.mpr c27
      have H' := Aside0.mk H
      clear H
      have p721004 : 0 ≤ (x1_5 : Int) := of_decide_eq_true (by first | (with_reducible assumption) | assumption)
      have q721004 : x1_5 < (l0.length : Int) := of_decide_eq_true (by first | (with_reducible assumption) | assumption)
      obtain ⟨ad721004, A721004_0, c721004_0, e721004, hx721004_0, hl721004_0, hi721004_0⟩ := at_L1 (Kd.C_kept_now HR0.out HK.out) x1_5 p721004 q721004
      cases e721004
      have HR721004_0 := Aside0.mk hi721004_0
      have HC721004_0 := Aside0.mk hl721004_0
      clear hi721004_0 hl721004_0
      replace p721004 := eq_true p721004
      replace q721004 := eq_true q721004
      have p721005 : 0 ≤ (x10_2 : Int) := of_decide_eq_true (by first | (with_reducible assumption) | assumption)
      have q721005 : x10_2 < ((rd_L1 l0 x1_5).length : Int) := of_decide_eq_true (by first | (with_reducible assumption) | assumption)
      obtain ⟨ad721005, e721005, hx721005_0⟩ := Kd.at_int (by repeat (first | (with_reducible exact HR721004_0.out) | (with_reducible refine Kd.C_alloc ?_ _) | (with_reducible refine Kd.C_drewN ?_ _) | (with_reducible refine Kd.C_drew ?_) | exact HR721004_0.out)) x10_2 p721005 q721005
      cases e721005
      replace p721005 := eq_true p721005
      replace q721005 := eq_true q721005
      go_wp2
      (try simp only [← hl4_2])
      go_roundg k2
      case measure => have := HJ5.out; have := HK2.out; omega
      case rel => exact ⟨(x4_2), (wrap64 (x10_2 + 1)), (by first | rfl | (simp; done) | (simp [*]; done)), H', ⟨by have := HJ5.out; have := HK2.out; omega⟩, ⟨by (try simp only [hl4_2]); (with_reducible repeat (first | apply Kd.R_alloc | apply Kd.R_drewN | apply Kd.R_drew)); exact HO_4.out⟩, ⟨by repeat (first | (with_reducible first | exact HK.out | apply Kept.alloc | apply Kept.drewN | apply Kept.drew) | exact HK.out)⟩, ⟨by repeat (first | (with_reducible first | exact HB.out | apply below_alloc | apply pw_below_drewN | apply below_drew1) | exact HB.out)⟩⟩
     rw [if_pos c27] at H
     have c27b0 : ((rd (rd_L1 l0 x1_5) x10_2) == 1) = true := beq_iff_eq.mpr c27
     have c27b1 : ((rd (rd_L1 l0 x1_5) x10_2) != 1) = false := bne_eq_false_iff_eq.mpr c27
     clear c27
     obtain ⟨ji28, hji28⟩ : ∃ j_ : Int, (IntKind.u64.wrap (x10_2)) = j_ := ⟨_, rfl⟩
     replace H : (if 0 ≤ (ji28) then (if (Go.bits .and .i64 (shr .i64 a2 (ji28)) 1) = 0 then ((spec_l10Match.f k2 l0 (wrap64 (x1_5 + 1)) (Go.bits .or .i64 a2 (shl .i64 1 (ji28))) (wrap64 (a3 + 1)) x4_2).bind fun t721006 => (spec_l10Match.l1 k2 l0 x1_5 a2 a3 t721006 (wrap64 (x10_2 + 1)))) else (spec_l10Match.l1 k2 l0 x1_5 a2 a3 x4_2 (wrap64 (x10_2 + 1)))) else (none)) = some r := by first | (rw [hji28] at H; exact H) | (simp only [hji28] at H ⊢; exact H)
     by_cases c29 : 0 ≤ (ji28)
     rotate_left
     ·rw [if_neg c29] at H
      exact absurd H (by simp)
     rw [if_pos c29] at H
     have c29b0 := eq_true c29
     have c29b1 : decide (0 ≤ (ji28)) = true := decide_eq_true c29
     clear c29
     obtain ⟨ji30, hji30⟩ : ∃ j_ : Int, (shr .i64 a2 (ji28)) = j_ := ⟨_, rfl⟩
     replace H : (if (Go.bits .and .i64 (ji30) 1) = 0 then ((spec_l10Match.f k2 l0 (wrap64 (x1_5 + 1)) (Go.bits .or .i64 a2 (shl .i64 1 (ji28))) (wrap64 (a3 + 1)) x4_2).bind fun t721006 => (spec_l10Match.l1 k2 l0 x1_5 a2 a3 t721006 (wrap64 (x10_2 + 1)))) else (spec_l10Match.l1 k2 l0 x1_5 a2 a3 x4_2 (wrap64 (x10_2 + 1)))) = some r := by first | (rw [hji30] at H; exact H) | (simp only [hji30] at H ⊢; exact H)
     have hji30_ : (a2 / 2 ^ min (ji28).toNat 64) = ji30 := hji30
     have hji30z : (ji28) ≤ 64 → (a2 / 2 ^ (ji28).toNat) = ji30 := shr_small hji30
     by_cases c31 : (Go.bits .and .i64 (ji30) 1) = 0
     rotate_left
     ·rw [if_neg c31] at H
      have c31b0 : ((Go.bits .and .i64 (ji30) 1) == 0) = false := beq_eq_false_iff_ne.mpr c31
      have c31b1 : ((Go.bits .and .i64 (ji30) 1) != 0) = true := bne_iff_ne.mpr c31
      have H' := Aside0.mk H
      clear H
      have p721004 : 0 ≤ (x1_5 : Int) := of_decide_eq_true (by first | (with_reducible assumption) | assumption)
      have q721004 : x1_5 < (l0.length : Int) := of_decide_eq_true (by first | (with_reducible assumption) | assumption)
      obtain ⟨ad721004, A721004_0, c721004_0, e721004, hx721004_0, hl721004_0, hi721004_0⟩ := at_L1 (Kd.C_kept_now HR0.out HK.out) x1_5 p721004 q721004
      cases e721004
      have HR721004_0 := Aside0.mk hi721004_0
      have HC721004_0 := Aside0.mk hl721004_0
      clear hi721004_0 hl721004_0
      replace p721004 := eq_true p721004
      replace q721004 := eq_true q721004
      have p721005 : 0 ≤ (x10_2 : Int) := of_decide_eq_true (by first | (with_reducible assumption) | assumption)
      have q721005 : x10_2 < ((rd_L1 l0 x1_5).length : Int) := of_decide_eq_true (by first | (with_reducible assumption) | assumption)
      obtain ⟨ad721005, e721005, hx721005_0⟩ := Kd.at_int (by repeat (first | (with_reducible exact HR721004_0.out) | (with_reducible refine Kd.C_alloc ?_ _) | (with_reducible refine Kd.C_drewN ?_ _) | (with_reducible refine Kd.C_drew ?_) | exact HR721004_0.out)) x10_2 p721005 q721005
      cases e721005
      replace p721005 := eq_true p721005
      replace q721005 := eq_true q721005
      go_wp2
      (try simp only [← hl4_2])
      go_roundg k2
      case measure => have := HJ5.out; have := HK2.out; omega
      case rel => exact ⟨(x4_2), (wrap64 (x10_2 + 1)), (by first | rfl | (simp; done) | (simp [*]; done)), H', ⟨by have := HJ5.out; have := HK2.out; omega⟩, ⟨by (try simp only [hl4_2]); (with_reducible repeat (first | apply Kd.R_alloc | apply Kd.R_drewN | apply Kd.R_drew)); exact HO_4.out⟩, ⟨by repeat (first | (with_reducible first | exact HK.out | apply Kept.alloc | apply Kept.drewN | apply Kept.drew) | exact HK.out)⟩, ⟨by repeat (first | (with_reducible first | exact HB.out | apply below_alloc | apply pw_below_drewN | apply below_drew1) | exact HB.out)⟩⟩
     rw [if_pos c31] at H
     have c31b0 : ((Go.bits .and .i64 (ji30) 1) == 0) = true := beq_iff_eq.mpr c31
     have c31b1 : ((Go.bits .and .i64 (ji30) 1) != 0) = false := bne_eq_false_iff_eq.mpr c31
     clear c31
     have c32b0 := eq_true (of_decide_eq_true (by first | (with_reducible assumption) | assumption) : 0 ≤ (ji28))
     obtain ⟨ji33, hji33⟩ : ∃ j_ : Int, (shl .i64 1 (ji28)) = j_ := ⟨_, rfl⟩
     replace H : ((spec_l10Match.f k2 l0 (wrap64 (x1_5 + 1)) (Go.bits .or .i64 a2 (ji33)) (wrap64 (a3 + 1)) x4_2).bind fun t721006 => (spec_l10Match.l1 k2 l0 x1_5 a2 a3 t721006 (wrap64 (x10_2 + 1)))) = some r := by first | (rw [hji33] at H; exact H) | (simp only [hji33] at H ⊢; exact H)
     have hji33_ : (IntKind.i64.wrap (1 * 2 ^ min (ji28).toNat 64)) = ji33 := hji33
     have hji33z : (ji28) ≤ 64 → (IntKind.i64.wrap (1 * 2 ^ (ji28).toNat)) = ji33 := shl_small hji33
     have hji33u : (IntKind.i64.wrap (2 ^ min (ji28).toNat 64)) = ji33 := by have h_ := hji33_; rw [Int.one_mul] at h_; exact h_
     have hji33v : (ji28) ≤ 64 → (IntKind.i64.wrap (2 ^ (ji28).toNat)) = ji33 := fun hle_ => by have h_ := hji33z hle_; rw [Int.one_mul] at h_; exact h_
     have hji33y : (wrap64 (1 * 2 ^ min (ji28).toNat 64)) = ji33 := (i64_w _).symm.trans hji33_
     have hji33x : (ji28) ≤ 64 → (wrap64 (1 * 2 ^ (ji28).toNat)) = ji33 := fun h_ => (i64_w _).symm.trans (hji33z h_)
     replace H := Option.bind_eq_some_iff.mp H
     obtain ⟨t721006, A340, H⟩ := H
     replace H : (spec_l10Match.l1 k2 l0 x1_5 a2 a3 t721006 (wrap64 (x10_2 + 1))) = some r := H
     have A34 := Aside0.mk A340
     clear A340
     have H' := Aside0.mk H
     clear H
     have p721004 : 0 ≤ (x1_5 : Int) := of_decide_eq_true (by first | (with_reducible assumption) | assumption)
     have q721004 : x1_5 < (l0.length : Int) := of_decide_eq_true (by first | (with_reducible assumption) | assumption)
     obtain ⟨ad721004, A721004_0, c721004_0, e721004, hx721004_0, hl721004_0, hi721004_0⟩ := at_L1 (Kd.C_kept_now HR0.out HK.out) x1_5 p721004 q721004
     cases e721004
     have HR721004_0 := Aside0.mk hi721004_0
     have HC721004_0 := Aside0.mk hl721004_0
     clear hi721004_0 hl721004_0
     replace p721004 := eq_true p721004
     replace q721004 := eq_true q721004
     have p721005 : 0 ≤ (x10_2 : Int) := of_decide_eq_true (by first | (with_reducible assumption) | assumption)
     have q721005 : x10_2 < ((rd_L1 l0 x1_5).length : Int) := of_decide_eq_true (by first | (with_reducible assumption) | assumption)
     obtain ⟨ad721005, e721005, hx721005_0⟩ := Kd.at_int (by repeat (first | (with_reducible exact HR721004_0.out) | (with_reducible refine Kd.C_alloc ?_ _) | (with_reducible refine Kd.C_drewN ?_ _) | (with_reducible refine Kd.C_drew ?_) | exact HR721004_0.out)) x10_2 p721005 q721005
     cases e721005
     replace p721005 := eq_true p721005
     replace q721005 := eq_true q721005
     go_wp2_with (first | ((with_reducible refine gate_callee (f := 72) rfl ?_); refine goesL_ (some 77) rfl rfl Tryz.func72 (by kernel_rfl) rfl #[.slice (some ad721004) l0.length c0, .int .i64 (wrap64 (x1_5 + 1)), .int .i64 (Go.bits .or .i64 a2 (ji33)), .int .i64 (wrap64 (a3 + 1)), .slice Ao20 x4_2.length co20] rfl (by (try simp only [List.map_toArray, List.map_cons, List.map_nil]); first | done | (simp only [hji33]; rfl) | rfl | (simp only [List.length_drop, List.length_take]; rfl)) ?_; (with_reducible refine (ih k2 (by have := HJ5.out; have := HK2.out; omega) _ _ l0 (wrap64 (x1_5 + 1)) (Go.bits .or .i64 a2 (ji33)) (wrap64 (a3 + 1)) (fun k_ => some k_ = (.slice Ao20 x4_2.length co20 : Value).ownBlock) (.slice Ao20 x4_2.length co20) x4_2 t721006 w0 _ ?side1 ?side2 ?side3 ?side4 A34.out).mono ?_); (case side1 => repeat (first | (with_reducible first | exact HB.out | apply below_alloc | apply pw_below_drewN | apply below_drew1) | exact HB.out)); (case side2 => exact Kd.C_kept_call HR0.out (by repeat (first | (with_reducible first | exact HK.out | apply Kept.alloc | apply Kept.drewN | apply Kept.drew) | exact HK.out)) (fun k_ hs_ => (fun e_ => (HO_4.out.1 k_ e_.symm)) hs_)); (case side3 => exact HC0.out); (case side4 => exact Kd.R_tight rfl HO_4.out); rintro e w35 ⟨rfl, hy0, hb, hkp⟩; refine ⟨_, rfl, ?_⟩; have n0_ := Aside0.mk (Kd.R_reok rfl hy0 (fun k_ e_ => HO_4.out.1 k_ e_)); have n1_ := Aside0.mk (Kept.then_ (S := (fun k_ => P4_ k_)) (by repeat (first | (with_reducible first | exact HK.out | apply Kept.alloc | apply Kept.drewN | apply Kept.drew) | exact HK.out)) hkp (fun k_ hs_ => (fun e_ => (HO_4.out.1 k_ e_.symm)) hs_)); have n2_ := Aside0.mk (hb); clear HO_4; clear HK; clear HB; have HO_4 := n0_; have HK := n1_; have HB := n2_; clear n0_ n1_ n2_; (try clear hb); (try clear hkp); (try clear hy0)))
     (try simp only [← hl4_2])
     go_roundg k2
     case measure => have := HJ5.out; have := HK2.out; omega
     case rel => exact ⟨(t721006), (wrap64 (x10_2 + 1)), (by first | rfl | (simp; done) | (simp [*]; done)), H', ⟨by have := HJ5.out; have := HK2.out; omega⟩, ⟨by (try simp only [hl4_2]); (with_reducible repeat (first | apply Kd.R_alloc | apply Kd.R_drewN | apply Kd.R_drew)); exact HO_4.out⟩, ⟨by repeat (first | (with_reducible first | exact HK.out | apply Kept.alloc | apply Kept.drewN | apply Kept.drew) | exact HK.out)⟩, ⟨by repeat (first | (with_reducible first | exact HB.out | apply below_alloc | apply pw_below_drewN | apply below_drew1) | exact HB.out)⟩⟩
end Go.Proofs.YtcnekpdoldljgaaGreat.F
end
section
namespace Go.Proofs.YtcnekpdoldljgaaGreat.F
open Go.RowKit Go.Proofs.YtcnekpdoldljgaaGreatW.PrintWords Go.Proofs.YtcnekpdoldljgaaGreatW.PrintLast Go.Proofs.YtcnekpdoldljgaaGreatW.PrintMore
attribute [local go_sem] max2_int min2_int max_two min_two max_three min_three max_four min_four   
set_option linter.unusedVariables false
set_option linter.unusedSimpArgs false
def spec_MatchingNumbers.f (k : Nat) (l0 : List Int) : Option (List Int × Int) := (spec_l10Code.f k l0 ([] : List Int)).bind fun t271001 => (if t271001 = 0 then (if 0 ≤ (wrap64 ((wrap64 ((l0.length : Int) / 4)) + 1)) then (if (wrap64 ((wrap64 ((l0.length : Int) / 4)) + 1) : Int).toNat ≤ 35184372088832 then ((spec_l01Cross.f k l0).bind fun t271005 => ((spec_l10Match.f k t271005 0 0 0 (List.replicate (wrap64 ((wrap64 ((l0.length : Int) / 4)) + 1) : Int).toNat 0)).bind fun t271008 => (some (t271008, 0)))) else (none)) else (none)) else (some (([] : List Int), t271001)))
theorem spec_MatchingNumbers.mono : ∀ a0 k, LeO (spec_MatchingNumbers.f k a0) (spec_MatchingNumbers.f (k + 1) a0) := by
  intro a0 k
  unfold spec_MatchingNumbers.f
  repeat' first
      | (with_reducible exact spec_l01Cross.mono _ _)
      | (with_reducible exact spec_l10Code.mono _ _ _)
      | (with_reducible exact spec_l10Match.mono _ _ _ _ _ _)
      | (with_reducible exact LeO.refl _)
      | (with_reducible exact LeO.none _)
      | (with_reducible refine LeO.ite ?_ ?_)
      | (with_reducible refine LeO.bind ?_ (fun _ => ?_))
      | exact spec_l01Cross.mono _ _
      | exact spec_l10Code.mono _ _ _
      | exact spec_l10Match.mono _ _ _ _ _ _
      | exact LeO.none _
      | refine LeO.ite ?_ ?_
      | refine LeO.bind ?_ (fun _ => ?_)
set_option maxHeartbeats 8000000 in
set_option maxRecDepth 100000 in
theorem spec_MatchingNumbers.calls (k : Nat) (A0 : Option Addr) (c0 : Nat) (l0 : List Int) (r1 : List Int) (r2 : Int) (w : World) (hr0 : Kd.C (Kd.int .i64) w A0 l0.length l0) (hc0 : l0.length ≤ c0) (h : spec_MatchingNumbers.f k l0 = some (r1, r2)) :
    Calls Tryz.prog 27 #[.slice A0 l0.length c0] w fun e w' => ∃ v0_ : Value, e = .returned (.tuple #[v0_, .int .i64 r2]) ∧ Kd.R (Kd.int .i64) 2 w' w.heap.size (fun _ => True) v0_ r1 ∧ Below w.heap.size w w' := by
  have HR0 := Aside0.mk hr0
  have HC0 := Aside0.mk hc0
  clear hr0 hc0
  have HB := Aside0.mk (Below.refl w.heap.size w)
  have H : ((spec_l10Code.f k l0 ([] : List Int)).bind fun t271001 => (if t271001 = 0 then (if 0 ≤ (wrap64 ((wrap64 ((l0.length : Int) / 4)) + 1)) then (if (wrap64 ((wrap64 ((l0.length : Int) / 4)) + 1) : Int).toNat ≤ 35184372088832 then ((spec_l01Cross.f k l0).bind fun t271005 => ((spec_l10Match.f k t271005 0 0 0 (List.replicate (wrap64 ((wrap64 ((l0.length : Int) / 4)) + 1) : Int).toNat 0)).bind fun t271008 => (some (t271008, 0)))) else (none)) else (none)) else (some (([] : List Int), t271001)))) = some (r1, r2) := h
  clear h
  replace H := Option.bind_eq_some_iff.mp H
  obtain ⟨t271001, A20, H⟩ := H
  replace H : (if t271001 = 0 then (if 0 ≤ (wrap64 ((wrap64 ((l0.length : Int) / 4)) + 1)) then (if (wrap64 ((wrap64 ((l0.length : Int) / 4)) + 1) : Int).toNat ≤ 35184372088832 then ((spec_l01Cross.f k l0).bind fun t271005 => ((spec_l10Match.f k t271005 0 0 0 (List.replicate (wrap64 ((wrap64 ((l0.length : Int) / 4)) + 1) : Int).toNat 0)).bind fun t271008 => (some (t271008, 0)))) else (none)) else (none)) else (some (([] : List Int), t271001))) = some (r1, r2) := H
  have A2 := Aside0.mk A20
  clear A20
  by_cases c3 : t271001 = 0
  rotate_left
  · rw [if_neg c3] at H
    have c3b0 : (t271001 == 0) = false := beq_eq_false_iff_ne.mpr c3
    have c3b1 : (t271001 != 0) = true := bne_iff_ne.mpr c3
    simp only [Option.some.injEq, Prod.mk.injEq] at H
    obtain ⟨rfl, rfl⟩ := H
    go_enter Tryz.func27, Tryz.ntmps27
    go_wp2_with (first | ((with_reducible refine gate_callee (f := 58) rfl ?_); refine goesL_ (some 7) rfl rfl Tryz.func58 (by kernel_rfl) rfl #[.slice A0 l0.length c0, .slice none 0 0] rfl (by (try simp only [List.map_toArray, List.map_cons, List.map_nil]); first | done | rfl | (simp only [List.length_drop, List.length_take]; rfl)) ?_; (refine (spec_l10Code.calls k _ _ l0 _ _ ([] : List Int) t271001 _ ?side1 ?side2 ?side3 ?side4 A2.out).mono ?_); (case side1 => repeat (first | exact HR0.out | (with_reducible refine Kd.C_alloc ?_ _) | (with_reducible refine Kd.C_drewN ?_ _) | (with_reducible refine Kd.C_drew ?_))); (case side2 => exact HC0.out); (case side3 => exact Kd.C_nil _ _); (case side4 => exact Nat.le_refl _); rintro e w16 ⟨rfl, hb⟩; refine ⟨_, rfl, ?_⟩; have n0_ := Aside0.mk (below_step (by repeat (first | (with_reducible first | exact HB.out | apply below_alloc | apply pw_below_drewN | apply below_drew1) | exact HB.out)) hb); clear HB; have HB := n0_; clear n0_; (try clear hb); (try clear hb2); (try clear hk); (try clear hi)))
    go_ret2
    exact ⟨_, by first | rfl | (simp [errW_none, errW_some] <;> rfl) | (simp [*, errW_none, errW_some] <;> rfl), by first | exact Kd.R_nil _ _ _ _ _ | exact Kd.N_nil _ _ _ _ _ | exact Kd.V_nil _ _ _ _ _ | exact Kd.Q_nil _ _ _ _ _ | exact Kd.S_nil _ _ _ _ _, by repeat (first | (with_reducible first | exact HB.out | apply below_alloc | apply pw_below_drewN | apply below_drew1) | exact HB.out)⟩
  rw [if_pos c3] at H
  have c3b0 : (t271001 == 0) = true := beq_iff_eq.mpr c3
  have c3b1 : (t271001 != 0) = false := bne_eq_false_iff_eq.mpr c3
  clear c3
  obtain ⟨ji4, hji4⟩ : ∃ j_ : Int, (wrap64 ((wrap64 ((l0.length : Int) / 4)) + 1)) = j_ := ⟨_, rfl⟩
  replace H : (if 0 ≤ (ji4) then (if (ji4 : Int).toNat ≤ 35184372088832 then ((spec_l01Cross.f k l0).bind fun t271005 => ((spec_l10Match.f k t271005 0 0 0 (List.replicate (ji4 : Int).toNat 0)).bind fun t271008 => (some (t271008, 0)))) else (none)) else (none)) = some (r1, r2) := by first | (rw [hji4] at H; exact H) | (simp only [hji4] at H ⊢; exact H)
  (try rw [hji4] at A2)
  have hji4w : (IntKind.i64.wrap ((wrap64 ((l0.length : Int) / 4)) + 1)) = ji4 := (i64_w _).trans hji4
  by_cases c5 : 0 ≤ (ji4)
  rotate_left
  · rw [if_neg c5] at H
    exact absurd H (by simp)
  rw [if_pos c5] at H
  have c5b0 := eq_true c5
  have c5b1 : decide (0 ≤ (ji4)) = true := decide_eq_true c5
  clear c5
  by_cases c6 : (ji4 : Int).toNat ≤ 35184372088832
  rotate_left
  · rw [if_neg c6] at H
    exact absurd H (by simp)
  rw [if_pos c6] at H
  have c6b0 := eq_true c6
  have c6b1 : decide ((ji4 : Int).toNat ≤ 35184372088832) = true := decide_eq_true c6
  clear c6
  obtain ⟨y271002, hy271002⟩ : ∃ y_ : List Int, y_ = (List.replicate (ji4 : Int).toNat 0) := ⟨_, rfl⟩
  replace H : ((spec_l01Cross.f k l0).bind fun t271005 => ((spec_l10Match.f k t271005 0 0 0 y271002).bind fun t271008 => (some (t271008, 0)))) = some (r1, r2) := by first | (rw [hy271002]; with_reducible exact H) | (have H2_ := (Option.bind_some _ _).symm.trans H; rw [hy271002]; with_reducible exact H2_) | (have H2_ := (Option.bind_some _ _).symm.trans H; with_reducible exact H2_) | with_reducible exact H | (rw [hy271002]; exact H) | exact H
  have Ny271002 := Aside0.mk hy271002
  clear hy271002
  replace H := Option.bind_eq_some_iff.mp H
  obtain ⟨t271005, A70, H⟩ := H
  replace H : ((spec_l10Match.f k t271005 0 0 0 y271002).bind fun t271008 => (some (t271008, 0))) = some (r1, r2) := H
  have A7 := Aside0.mk A70
  clear A70
  replace H := Option.bind_eq_some_iff.mp H
  obtain ⟨t271008, A80, H⟩ := H
  replace H : (some (t271008, 0)) = some (r1, r2) := H
  have A8 := Aside0.mk A80
  clear A80
  simp only [Option.some.injEq, Prod.mk.injEq] at H
  obtain ⟨rfl, rfl⟩ := H
  go_enter Tryz.func27, Tryz.ntmps27
  go_wp2_with (first | ((with_reducible refine gate_callee (f := 58) rfl ?_); refine goesL_ (some 7) rfl rfl Tryz.func58 (by kernel_rfl) rfl #[.slice A0 l0.length c0, .slice none 0 0] rfl (by (try simp only [List.map_toArray, List.map_cons, List.map_nil]); first | done | rfl | (simp only [List.length_drop, List.length_take]; rfl)) ?_; (refine (spec_l10Code.calls k _ _ l0 _ _ ([] : List Int) t271001 _ ?side1 ?side2 ?side3 ?side4 A2.out).mono ?_); (case side1 => repeat (first | exact HR0.out | (with_reducible refine Kd.C_alloc ?_ _) | (with_reducible refine Kd.C_drewN ?_ _) | (with_reducible refine Kd.C_drew ?_))); (case side2 => exact HC0.out); (case side3 => exact Kd.C_nil _ _); (case side4 => exact Nat.le_refl _); rintro e w9 ⟨rfl, hb⟩; refine ⟨_, rfl, ?_⟩; have n0_ := Aside0.mk (below_step (by repeat (first | (with_reducible first | exact HB.out | apply below_alloc | apply pw_below_drewN | apply below_drew1) | exact HB.out)) hb); clear HB; have HB := n0_; clear n0_; (try clear hb); (try clear hb2); (try clear hk); (try clear hi)) | ((with_reducible refine gate_dst (N := 15) rfl ?_); refine Kd.R_make (Kd.int .i64) _ 2 rfl (N := 15) rfl 37 _ _ rfl ji4 rfl rfl Tryz.underlying37 (.int .i64 0) 8 info2 rfl (by decide) (by omega) 0 (ok := fun _ => True) (okp := fun _ => True) rfl (fun _ hk => hk) trivial (of_decide_eq_true (by first | (with_reducible assumption) | assumption)) (Nat.le_trans (Nat.mul_le_mul_right _ (of_decide_eq_true (by first | (with_reducible assumption) | assumption) : ji4.toNat ≤ 35184372088832)) (by omega)) (Below.refl _ _) (Nat.le_refl _) ?_; intro v271003 w10 ho11 hb hg_ hnew_; clear hg_ hnew_; (first | rw [← Ny271002.out] at ho11 | (simp only [Int.reduceToNat] at ho11; rw [← Ny271002.out] at ho11)); have n0_ := Aside0.mk (Kd.R_lower ho11 (below_size (by repeat (first | (with_reducible first | exact HB.out | apply below_alloc | apply pw_below_drewN | apply below_drew1) | exact HB.out)))); have n1_ := Aside0.mk (below_step (by repeat (first | (with_reducible first | exact HB.out | apply below_alloc | apply pw_below_drewN | apply below_drew1) | exact HB.out)) hb); clear HB; have HO271004 := n0_; have HB := n1_; clear n0_ n1_; clear hb ho11) | ((with_reducible refine gate_callee (f := 73) rfl ?_); refine goesL_ (some 17) rfl rfl Tryz.func73 (by kernel_rfl) rfl #[.slice A0 l0.length c0] rfl (by (try simp only [List.map_toArray, List.map_cons, List.map_nil]); first | done | rfl | (simp only [List.length_drop, List.length_take]; rfl)) ?_; (with_reducible refine (spec_l01Cross.calls k _ _ l0 t271005 _ ?side1 ?side2 A7.out).mono ?_); (case side1 => repeat (first | exact (Kd.C_below HR0.out HB.out) | (with_reducible refine Kd.C_alloc ?_ _) | (with_reducible refine Kd.C_drewN ?_ _) | (with_reducible refine Kd.C_drew ?_))); (case side2 => exact HC0.out); rintro e w12 ⟨v271006, rfl, ho0, hb⟩; refine ⟨_, rfl, ?_⟩; have n0_ := Aside0.mk (Kd.R_below (by (with_reducible repeat (first | apply Kd.R_alloc | apply Kd.R_drewN | apply Kd.R_drew)); exact HO271004.out) hb); have n1_ := Aside0.mk (Kd.S_lower (Kd.S_new' ho0 (Kd.R_lt (by (with_reducible repeat (first | apply Kd.R_alloc | apply Kd.R_drewN | apply Kd.R_drew)); exact HO271004.out))) (below_size (by repeat (first | (with_reducible first | exact HB.out | apply below_alloc | apply pw_below_drewN | apply below_drew1) | exact HB.out)))); have n2_ := Aside0.mk (below_step (by repeat (first | (with_reducible first | exact HB.out | apply below_alloc | apply pw_below_drewN | apply below_drew1) | exact HB.out)) hb); clear HO271004; clear HB; have HO271004 := n0_; have HO271007 := n1_; have HB := n2_; clear n0_ n1_ n2_; (try clear hb); (try clear hb2); (try clear hk); (try clear hi); (try clear ho0); obtain ⟨Ao13, co13, eo13⟩ := Kd.S_slice HO271007.out; subst eo13; obtain ⟨Ao14, co14, eo14⟩ := Kd.R_slice HO271004.out; subst eo14) | ((with_reducible refine gate_callee (f := 72) rfl ?_); refine goesL_ (some 19) rfl rfl Tryz.func72 (by kernel_rfl) rfl #[.slice Ao13 t271005.length co13, .int .i64 0, .int .i64 0, .int .i64 0, .slice Ao14 y271002.length co14] rfl (by (try simp only [List.map_toArray, List.map_cons, List.map_nil]); first | done | rfl | (simp only [List.length_drop, List.length_take]; rfl)) ?_; (with_reducible refine (spec_l10Match.calls k _ _ t271005 0 0 0 (fun k_ => some k_ = (.slice Ao14 y271002.length co14 : Value).ownBlock) (.slice Ao14 y271002.length co14) y271002 t271008 w _ ?side1 ?side2 ?side3 ?side4 A8.out).mono ?_); (case side1 => repeat (first | (with_reducible first | exact HB.out | apply below_alloc | apply pw_below_drewN | apply below_drew1) | exact HB.out)); (case side2 => exact Kd.C_kept_own ((Kd.S_R HO271007.out)) (fun k_ hk_ hs_ => (hk_.2) hs_)); (case side3 => exact (Kd.S_reads' HO271007.out).2.1); (case side4 => exact Kd.R_tight rfl HO271004.out); rintro e w15 ⟨rfl, hy0, hb, hkp⟩; refine ⟨_, rfl, ?_⟩; have n0_ := Aside0.mk (Kd.R_reok rfl hy0 (fun k_ e_ => HO271004.out.1 k_ e_)); have n1_ := Aside0.mk (Kd.S_mono (ok' := fun k_ => some k_ ≠ (.slice Ao14 y271002.length co14 : Value).ownBlock) (Kd.S_keptB (HO271007.out) hkp (fun k_ hk_ hs_ => (hk_.2) hs_)) (fun k_ hk_ => hk_.1.2)); have n2_ := Aside0.mk (hb); clear HO271004; clear HO271007; clear HB; have HO271004 := n0_; have HO271007 := n1_; have HB := n2_; clear n0_ n1_ n2_; (try clear hb); (try clear hkp); (try clear hy0)))
  go_ret2
  exact ⟨_, by first | rfl | (simp [errW_none, errW_some] <;> rfl) | (simp only [← hji4]; first | rfl | (simp [errW_none, errW_some] <;> rfl)) | (simp [*, errW_none, errW_some] <;> rfl), by (with_reducible repeat (first | apply Kd.R_alloc | apply Kd.R_drewN | apply Kd.R_drew)); exact HO271004.out, by repeat (first | (with_reducible first | exact HB.out | apply below_alloc | apply pw_below_drewN | apply below_drew1) | exact HB.out)⟩
end Go.Proofs.YtcnekpdoldljgaaGreat.F
end
section
namespace Go.Proofs.YtcnekpdoldljgaaGreat.F
open Go.RowKit Go.Proofs.YtcnekpdoldljgaaGreatW.PrintWords Go.Proofs.YtcnekpdoldljgaaGreatW.PrintLast Go.Proofs.YtcnekpdoldljgaaGreat.Pure
def crossRow (w : List Int) (k : Nat) : Nat → Nat
  | 0 => 0
  | i + 1 => crossRow w k i + (if crossB w i k = true then 1 else 0)
def crossTo (w : List Int) : Nat → Nat
  | 0 => 0
  | k + 1 => crossTo w k + crossRow w k k
theorem crossRow_le (w : List Int) (k : Nat) : ∀ i, crossRow w k i ≤ i
  | 0 => Nat.le_refl _
  | i + 1 => by have := crossRow_le w k i; unfold crossRow; split <;> omega
theorem crossTo_le (w : List Int) : ∀ k, crossTo w k ≤ k * k
  | 0 => Nat.le_refl _
  | k + 1 => by
    have h1 := crossTo_le w k
    have h2 := crossRow_le w k k
    unfold crossTo
    have : (k + 1) * (k + 1) = k * k + k + k + 1 := by rw [Nat.add_mul, Nat.mul_add]; omega
    omega
end Go.Proofs.YtcnekpdoldljgaaGreat.F
end
section
namespace Go.Proofs.YtcnekpdoldljgaaGreat.F
open Go.RowKit Go.Proofs.YtcnekpdoldljgaaGreatW.PrintWords Go.Proofs.YtcnekpdoldljgaaGreatW.PrintLast Go.Proofs.YtcnekpdoldljgaaGreatW.PrintMore
attribute [local go_sem] max2_int min2_int max_two min_two max_three min_three max_four min_four   
set_option linter.unusedVariables false
set_option linter.unusedSimpArgs false
open Go.Proofs.YtcnekpdoldljgaaGreat.Pure Go.Proofs.YtcnekpdoldljgaaGreat.Mem
def impl_CountCrossings.f (k : Nat) (l0 : List Int) : Option (Int × Int) := (impl_IsWord.f k l0).bind fun t => (if t = true then (if isW l0 = true then some ((crossTo l0 (l0.length / 2) : Int), 0) else none) else (some (0, 1)))
theorem impl_CountCrossings.mono : ∀ a0 k, LeO (impl_CountCrossings.f k a0) (impl_CountCrossings.f (k + 1) a0) := fun _ _ => LeO.bind (impl_IsWord.mono _ _) (fun _ => LeO.refl _)
set_option maxHeartbeats 4000000 in
set_option maxRecDepth 100000 in
theorem impl_CountCrossings_1.calls (A0 : Option Addr) (c0 : Nat) (l0 : List Int) (i k : Nat) (B : Nat) (w : World) (hr0 : Kd.C (Kd.int .i64) w A0 l0.length l0) (hc0 : l0.length ≤ c0) (hw : Word l0) (hi : i < l0.length / 2) (hk : k < l0.length / 2)
    (hb : w.cell? ⟨B, 0, none⟩ = some (.slice A0 l0.length c0)) :
    Calls Tryz.prog 75 #[.int .i64 (i : Int), .int .i64 (k : Int), .pointer (some ⟨B, 0, none⟩)] w fun e w' => e = .returned (.bool (crossB l0 i k)) ∧ Drawn0 w w' := by
  obtain ⟨n, hn⟩ := Ev.rounds (icross_ev l0 hw i k hi hk)
  have HN := Aside0.mk hn
  have HR := Aside0.mk hr0
  have HC := Aside0.mk hc0
  clear hn hr0 hc0 hw hi hk
  go_enter Tryz.func75, Tryz.ntmps75
  go_wp2_with (first | (go_at_call 76; refine (impl_cross.calls n A0 c0 l0 (i : Int) (k : Int) _ _ HR.out HC.out HN.out).mono ?_; rintro e w' ⟨rfl, ⟨nd, rfl⟩⟩))
  go_ret
  exact ⟨rfl, ⟨_, rfl⟩⟩
set_option maxHeartbeats 8000000 in
set_option maxRecDepth 100000 in
theorem impl_pairs_CountCrossings.calls (A0 : Option Addr) (c0 : Nat) (l0 : List Int) (B : Nat) (w : World) (hr0 : Kd.C (Kd.int .i64) w A0 l0.length l0) (hc0 : l0.length ≤ c0) (hw : Word l0)
    (hb : w.cell? ⟨B, 0, none⟩ = some (.slice A0 l0.length c0)) :
    Calls Tryz.prog 74 #[.slice A0 l0.length c0, .func (.func 75) #[] #[.pointer (some ⟨B, 0, none⟩)]] w fun e w' => e = .returned (.int .i64 (crossTo l0 (l0.length / 2) : Int)) ∧ Drawn0 w w' := by
  have hle := hw.le
  have HW := Aside0.mk hw
  have HR := Aside0.mk hr0
  have HC := Aside0.mk hc0
  have HL := Aside0.mk hle
  obtain ⟨n, hn⟩ : ∃ n, n = l0.length / 2 := ⟨_, rfl⟩
  have hch : impl_chords.f l0 = some (n : Int) := by rw [hn]; exact chords_f l0 hle
  have CH := Aside0.mk hch
  have HN := Aside0.mk hn
  have HN6 := Aside0.mk (show n ≤ 6 by omega)
  have HB := Aside0.mk hb
  clear hw hr0 hc0 hle hb hch hn
  go_enter Tryz.func74, Tryz.ntmps74
  go_wp2_with (first | (go_at_call 115; refine (impl_chords.calls A0 c0 l0 _ _ HR.out HC.out CH.out).mono ?_; rintro e w' ⟨rfl, ⟨nd, rfl⟩⟩))
  go_loopw [5, 10] (fun m i wr => ∃ (k t : Nat), i = .int .i64 (k : Int) ∧ m = .int .i64 (t : Int) ∧ Aside0 (t = crossTo l0 k) ∧ Aside0 (k ≤ n) ∧ ∃ nd, wr = w.drewN nd)
    (fun _ i _ => n - (intOf i).toNat)
  case atStart => exact ⟨0, 0, rfl, rfl, ⟨rfl⟩, ⟨Nat.zero_le _⟩, _, rfl⟩
  case round =>
    obtain ⟨k, t, rfl, rfl, HT, HK, nd1, rfl⟩ := hrel
    by_cases hlt : k < n
    rotate_left
    · have HKE := Aside0.mk (show k = n from by have := HK.out; omega)
      have t1 : decide (k < n) = false := decide_eq_false hlt
      have t2 : decide ((k : Int) < (n : Int)) = false := decide_eq_false (by omega)
      clear hlt
      go_wp2
      go_ret
      exact ⟨by rw [← HN.out, ← HKE.out, ← HT.out]; rfl, ⟨_, rfl⟩⟩
    have HLT := Aside0.mk hlt
    have t1 : decide (k < n) = true := decide_eq_true hlt
    have t2 : decide ((k : Int) < (n : Int)) = true := decide_eq_true (by omega)
    clear hlt
    go_wp2
    go_loopw [5, 14] (fun m i wr => ∃ (j t : Nat), i = .int .i64 (j : Int) ∧ m = .int .i64 (t : Int) ∧ Aside0 (t = crossTo l0 k + crossRow l0 k j) ∧ Aside0 (j ≤ k) ∧ ∃ nd, wr = w.drewN nd)
      (fun _ i _ => k - (intOf i).toNat)
    case atStart => exact ⟨0, t, rfl, rfl, ⟨by rw [HT.out]; rfl⟩, ⟨Nat.zero_le _⟩, _, rfl⟩
    case round =>
      clear t1 t2 HT
      obtain ⟨j, t, rfl, rfl, HT, HJ, nd2, rfl⟩ := hrel
      by_cases hlt : j < k
      rotate_left
      · have HJE := Aside0.mk (show j = k from by have := HJ.out; omega)
        have t1 : decide (j < k) = false := decide_eq_false hlt
        have t2 : decide ((j : Int) < (k : Int)) = false := decide_eq_false (by omega)
        have W1 := Aside0.mk (show wrap64 ((k : Int) + 1) = ((k + 1 : Nat) : Int) from by have := HLT.out; have := HN6.out; unfold wrap64; omega)
        clear hlt
        go_wp2
        go_roundw
        case rel => exact ⟨k + 1, t, by rw [W1.out], rfl, ⟨by rw [HT.out, HJE.out]; rfl⟩, ⟨HLT.out⟩, _, rfl⟩
        case measure => rw [W1.out]; have := HLT.out; simp [intOf]; omega
      have HLJ := Aside0.mk hlt
      have t1 : decide (j < k) = true := decide_eq_true hlt
      have t2 : decide ((j : Int) < (k : Int)) = true := decide_eq_true (by omega)
      have W1 := Aside0.mk (show wrap64 ((j : Int) + 1) = ((j + 1 : Nat) : Int) from by have := HLJ.out; have := HLT.out; have := HN6.out; unfold wrap64; omega)
      have B1 := Aside0.mk (crossTo_le l0 k)
      have B2 := Aside0.mk (crossRow_le l0 k j)
      have B3 := Aside0.mk (show k * k ≤ 6 * 6 from Nat.mul_le_mul (show k ≤ 6 from by have := HLT.out; have := HN6.out; omega) (show k ≤ 6 from by have := HLT.out; have := HN6.out; omega))
      have W2 := Aside0.mk (show wrap64 ((t : Int) + 1) = ((t + 1 : Nat) : Int) from by have := HT.out; have := HLJ.out; have := HLT.out; have := HN6.out; have := B1.out; have := B2.out; have := B3.out; unfold wrap64; omega)
      clear hlt
      cases hc : crossB l0 j k with
      | true =>
        have HCR := Aside0.mk hc
        clear hc
        go_wp2_with (first | (go_at_call 75; refine (impl_CountCrossings_1.calls A0 c0 l0 j k B _ (Kd.C_drewN HR.out _) HC.out HW.out (by have := HN.out; have := HLJ.out; have := HLT.out; omega) (by have := HN.out; have := HLT.out; omega) (by have := HB.out; first | exact this | simpa using this)).mono ?_; rintro e w' ⟨rfl, ⟨nd, rfl⟩⟩; rw [HCR.out]))
        go_roundw
        case rel => exact ⟨j + 1, t + 1, by rw [W1.out], by rw [W2.out], ⟨by rw [HT.out, crossRow, if_pos HCR.out, Nat.add_assoc]⟩, ⟨HLJ.out⟩, _, rfl⟩
        case measure => rw [W1.out]; have := HLJ.out; simp [intOf]; omega
      | false =>
        have HCR := Aside0.mk hc
        clear hc
        go_wp2_with (first | (go_at_call 75; refine (impl_CountCrossings_1.calls A0 c0 l0 j k B _ (Kd.C_drewN HR.out _) HC.out HW.out (by have := HN.out; have := HLJ.out; have := HLT.out; omega) (by have := HN.out; have := HLT.out; omega) (by have := HB.out; first | exact this | simpa using this)).mono ?_; rintro e w' ⟨rfl, ⟨nd, rfl⟩⟩; rw [HCR.out]))
        go_roundw
        case rel => exact ⟨j + 1, t, by rw [W1.out], rfl, ⟨by rw [HT.out, crossRow, if_neg (by rw [HCR.out]; simp)]; rfl⟩, ⟨HLJ.out⟩, _, rfl⟩
        case measure => rw [W1.out]; have := HLJ.out; simp [intOf]; omega
set_option maxHeartbeats 8000000 in
set_option maxRecDepth 100000 in
theorem impl_CountCrossings.calls (k : Nat) (A0 : Option Addr) (c0 : Nat) (l0 : List Int) (r1 : Int) (r2 : Int) (w : World) (hr0 : Kd.C (Kd.int .i64) w A0 l0.length l0) (hc0 : l0.length ≤ c0) (h : impl_CountCrossings.f k l0 = some (r1, r2)) :
    Calls Tryz.prog 28 #[.slice A0 l0.length c0] w fun e w' => e = .returned (.tuple #[.int .i64 r1, .int .i64 r2]) ∧ Below w.heap.size w w' := by
  have HR := Aside0.mk hr0
  have HC := Aside0.mk hc0
  clear hr0 hc0
  unfold impl_CountCrossings.f at h
  obtain ⟨t, ht, h⟩ := Option.bind_eq_some_iff.1 h
  have HT := Aside0.mk ht
  clear ht
  have hmf : ∀ (fn : Fn) (first cap : Array Value) (w : World), (Instr.makeFunc fn first cap).run Tryz.prog w = .ok (.func fn first cap) w := fun _ _ _ _ => rfl
  cases t with
  | true =>
    rw [if_pos rfl] at h
    by_cases hk : isW l0 = true
    rotate_left
    · rw [if_neg hk] at h; exact absurd h (by simp)
    rw [if_pos hk] at h
    simp only [Option.some.injEq, Prod.mk.injEq] at h
    obtain ⟨rfl, rfl⟩ := h
    have HW := Aside0.mk ((isW_iff l0).1 hk)
    clear hk
    go_enter Tryz.func28, Tryz.ntmps28
    go_wp2_with (first
      | (go_at_call 61; refine (impl_IsWord.calls k A0 c0 l0 true _ (Kd.C_alloc HR.out _) HC.out HT.out).mono ?_; rintro e w1 ⟨rfl, hb1⟩; have HB1 := Aside0.mk hb1; have hq1 : w1.cell? ⟨w.heap.size, 0, none⟩ = some (.slice A0 l0.length c0) := cell1 ((hb1.block w.heap.size (by simp)).trans (new_at rfl)); have HQ1 := Aside0.mk hq1; clear hb1)
      | (go_at_call 74; refine (impl_pairs_CountCrossings.calls A0 c0 l0 w.heap.size _ (Kd.C_below HR.out (below_step (below_alloc (Below.refl _ _) _) HB1.out)) HC.out HW.out HQ1.out).mono ?_; rintro e w' ⟨rfl, ⟨nd, rfl⟩⟩))
    go_ret2
    exact ⟨rfl, by repeat (first | exact below_step (below_alloc (Below.refl _ _) _) HB1.out | apply below_alloc | apply pw_below_drewN | apply below_drew1)⟩
  | false =>
    rw [if_neg (by simp)] at h
    simp only [Option.some.injEq, Prod.mk.injEq] at h
    obtain ⟨rfl, rfl⟩ := h
    go_enter Tryz.func28, Tryz.ntmps28
    go_wp2_with (first
      | (go_at_call 61; refine (impl_IsWord.calls k A0 c0 l0 false _ (Kd.C_alloc HR.out _) HC.out HT.out).mono ?_; rintro e w1 ⟨rfl, hb1⟩; have HB1 := Aside0.mk hb1; clear hb1))
    go_ret2
    exact ⟨rfl, below_step (below_alloc (Below.refl _ _) _) HB1.out⟩
end Go.Proofs.YtcnekpdoldljgaaGreat.F
end
