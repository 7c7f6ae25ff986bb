/- What impl_matchings answers, and that the Go text comes to it: for every world in which the arguments read as told. -/
import Derived.Test.YtfijnlbkflmkbaaFgA
import Derived.Test.YtfijnlbkflmkbaaFx155
import Derived.Test.YtfijnlbkflmkbaaFx156
import Derived.Test.YtfijnlbkflmkbaaPureE
import Derived.Test.YtfijnlbkflmkbaaPureFind
import Derived.Test.YtfijnlbkflmkbaaPureMem
import Derived.Deep.RegionWith
import Derived.Deep.RegionLawGrows
import Derived.Laws.EntriesVeiled
namespace Go.Proofs.Ytfijnlbkflmkbaa.F
open Go.RowKit Go.Proofs.YtfijnlbkflmkbaaW.PrintWords Go.Proofs.YtfijnlbkflmkbaaW.PrintLast Go.Proofs.YtfijnlbkflmkbaaW.PrintMore
attribute [local go_sem] max2_int min2_int max_two min_two max_three min_three max_four min_four   -- for this text's walks alone
set_option linter.unusedVariables false
set_option linter.unusedSimpArgs false

/-! ### impl_matchings: function 110 (by hand) -/
open Go.Proofs.Ytfijnlbkflmkbaa.Pure Go.Proofs.Ytfijnlbkflmkbaa.Mem
/-- What the search for matchings among the chords from i on (d of them) leaves in the counts. -/
def matchW (X : Nat → Nat → Bool) : Nat → Nat → List Int → List Int → List Int
 | 0, _, used, out => out.set (used.length / 2) (wrap64 (out.getD (used.length / 2) 0 + 1))
 | d + 1, i, used, out => (List.range d).foldl (fun o j => if !used.contains (i : Int) && !used.contains ((i + 1 + j : Nat) : Int) && X i (i + 1 + j) then matchW X d (i + 1) (used ++ [(i : Int), ((i + 1 + j : Nat) : Int)]) o else o) (matchW X d (i + 1) used out)
/-- The same behind j of the chords. -/
def matchTo (X : Nat → Nat → Bool) (d i : Nat) (used out : List Int) (j : Nat) : List Int := (List.range j).foldl (fun o j => if !used.contains (i : Int) && !used.contains ((i + 1 + j : Nat) : Int) && X i (i + 1 + j) then matchW X d (i + 1) (used ++ [(i : Int), ((i + 1 + j : Nat) : Int)]) o else o) (matchW X d (i + 1) used out)
theorem matchTo_succ (X : Nat → Nat → Bool) (d i : Nat) (used out : List Int) (j : Nat) : matchTo X d i used out (j + 1) = if !used.contains (i : Int) && !used.contains ((i + 1 + j : Nat) : Int) && X i (i + 1 + j) then matchW X d (i + 1) (used ++ [(i : Int), ((i + 1 + j : Nat) : Int)]) (matchTo X d i used out j) else matchTo X d i used out j := by
 unfold matchTo; rw [List.range_succ, List.foldl_append]; rfl
theorem matchTo_len' (X : Nat → Nat → Bool) (d i : Nat) (used out : List Int) (h : ∀ used out : List Int, (matchW X d (i + 1) used out).length = out.length) : ∀ j, (matchTo X d i used out j).length = out.length
 | 0 => h used out
 | j + 1 => by
  rw [matchTo_succ]
  split
  ·rw [h]; exact matchTo_len' X d i used out h j
  ·exact matchTo_len' X d i used out h j
def matchV (w : List Int) : List Int := matchW (crossB w) (w.length / 2) 0 [] (List.replicate (w.length / 2 / 2 + 1) 0)
def impl_matchings.f (l0 : List Int) : Option (List Int) := if isW l0 = true then some (matchV l0) else none
theorem matchW_len (X : Nat → Nat → Bool) : ∀ (d i : Nat) (used out : List Int), (matchW X d i used out).length = out.length
 | 0, _, _, _ => by rw [matchW, List.length_set]
 | d + 1, i, used, out => by rw [matchW]; exact matchTo_len' X d i used out (matchW_len X d (i + 1)) d
theorem matchTo_len (X : Nat → Nat → Bool) (d i : Nat) (used out : List Int) (j : Nat) : (matchTo X d i used out j).length = out.length := matchTo_len' X d i used out (matchW_len X d (i + 1)) j
theorem used_app {used : List Int} {i k : Nat} (hd : used.Nodup) (ha : used.contains (i : Int) = false) (hb : used.contains (k : Int) = false) (hne : i ≠ k) : (used ++ [(i : Int), (k : Int)]).Nodup := by
 rw [List.nodup_append]
 refine ⟨hd, List.nodup_cons.2 ⟨by simp; omega, List.nodup_cons.2 ⟨by simp, List.nodup_nil⟩⟩, fun a hm b hb2 => ?_⟩
 intro e
 subst e
 rcases List.mem_cons.1 hb2 with rfl | h
 ·rw [List.contains_iff_mem.2 hm] at ha; exact absurd ha (by simp)
 ·rw [List.mem_singleton] at h; subst h; rw [List.contains_iff_mem.2 hm] at hb; exact absurd hb (by simp)
theorem mem_app {used : List Int} {i k n : Nat} (hu : ∀ x ∈ used, 0 ≤ x ∧ x < (n : Int)) (hi : i < n) (hk : k < n) : ∀ x ∈ used ++ [(i : Int), (k : Int)], 0 ≤ x ∧ x < (n : Int) := by
 intro x hx
 rcases List.mem_append.1 hx with h | h
 ·exact hu x h
 ·rcases List.mem_cons.1 h with rfl | h
  ·omega
  ·rw [List.mem_singleton] at h; omega
/-- What the closure finds in memory. -/
structure MEnv (w : World) (l0 : List Int) (A0 : Option Addr) (c0 n m Bn Bo Bm Bw Br : Nat) : Prop where
 cn : w.cell? ⟨Bn, 0, none⟩ = some (.int .i64 (n : Int))
 co : w.cell? ⟨Bo, 0, none⟩ = some (.slice (some ⟨Br, 0, none⟩) m m)
 cm : w.cell? ⟨Bm, 0, none⟩ = some (.func (.func 154) #[] #[.pointer (some ⟨Bn, 0, none⟩), .pointer (some ⟨Bo, 0, none⟩), .pointer (some ⟨Bm, 0, none⟩), .pointer (some ⟨Bw, 0, none⟩)])
 cw : w.cell? ⟨Bw, 0, none⟩ = some (.slice A0 l0.length c0)
 n1 : Bn ≠ Br
 n2 : Bo ≠ Br
 n3 : Bm ≠ Br
 n4 : Bw ≠ Br
 rd : Kd.F (Kd.int .i64) w (fun k => k ≠ Br) A0 l0.length l0
 lt : Br < w.heap.size
theorem MEnv.grown {w w' : World} {l0 : List Int} {A0 : Option Addr} {c0 n m Bn Bo Bm Bw Br : Nat} (h : MEnv w l0 A0 c0 n m Bn Bo Bm Bw Br) (hg : w.grownBy w' (some Br)) : MEnv w' l0 A0 c0 n m Bn Bo Bm Bw Br :=
 ⟨hg.cell h.cn (fun e => h.n1 (Option.some.inj e)), hg.cell h.co (fun e => h.n2 (Option.some.inj e)), hg.cell h.cm (fun e => h.n3 (Option.some.inj e)), hg.cell h.cw (fun e => h.n4 (Option.some.inj e)), h.n1, h.n2, h.n3, h.n4,
  Kd.F_grown h.rd hg (fun k hk e => hk (Option.some.inj e)), Nat.lt_of_lt_of_le h.lt hg.size⟩
theorem used_len {used : List Int} {n : Nat} (hd : used.Nodup) (hu : ∀ x ∈ used, 0 ≤ x ∧ x < (n : Int)) : used.length ≤ n := by
 have h : ∀ (l m : List Int), l.Nodup → (∀ x ∈ l, x ∈ m) → l.length ≤ m.length := by
  intro l
  induction l with
  | nil => intro m _ _; exact Nat.zero_le _
  | cons a l ih =>
   intro m hd h
   have hn := List.nodup_cons.1 hd
   have ha := h a List.mem_cons_self
   have := ih (m.erase a) hn.2 (fun x hx => (List.mem_erase_of_ne (fun (e : x = a) => hn.1 (e ▸ hx))).2 (h x (List.mem_cons_of_mem _ hx)))
   rw [List.length_erase_of_mem ha] at this
   have := List.length_pos_of_mem ha
   rw [List.length_cons]; omega
 have := h used ((List.range n).map fun i : Nat => (i : Int)) hd (fun x hx => List.mem_map.2 ⟨x.toNat, List.mem_range.2 (by have := hu x hx; omega), by have := hu x hx; omega⟩)
 simpa using this
set_option maxHeartbeats 8000000 in
set_option maxRecDepth 100000 in
theorem matchings_1_end (l0 : List Int) (A0 : Option Addr) (c0 n m Bn Bo Bm Bw Br : Nat) (used out : List Int) (A : Option Addr) (c : Nat) (w : World) (hn6 : n ≤ 6) (E : MEnv w l0 A0 c0 n m Bn Bo Bm Bw Br)
  (hm : out.length = m) (hr : w.heap[Br]? = some (.cells (nums .i64 out).toArray 2 (0, 0))) (hul : used.length ≤ 12) (hul2 : used.length / 2 < m) :
  Calls Try.prog 154 #[.int .i64 (n : Int), .slice A used.length c, .pointer (some ⟨Bn, 0, none⟩), .pointer (some ⟨Bo, 0, none⟩), .pointer (some ⟨Bm, 0, none⟩), .pointer (some ⟨Bw, 0, none⟩)] w fun e w' =>
   e = .returned (.tuple #[]) ∧ w.grownBy w' (some Br) ∧ w'.heap[Br]? = some (.cells (nums .i64 (out.set (used.length / 2) (wrap64 (out.getD (used.length / 2) 0 + 1)))).toArray 2 (0, 0)) := by
 have h1 := E.cn
 have h2 := E.co
 have hx := blk_cell hr (used.length / 2)
 rw [nums_get out _ (by omega)] at hx
 have hfz := blk_frozen hr (used.length / 2)
 have HR := Aside0.mk hr
 have HM := Aside0.mk hm
 have HE := Aside0.mk E
 clear hr hm E
 go_enter Try.func154, Try.ntmps154
 go_wp2
 (try simp only [Exit.inBlock, Exit.then])
 refine bodyPost_ret (results_none rfl _ _ _) rfl ?_
 exact ⟨rfl, grown_set (grown_refl w _) _ _, by rw [blk_set HR.out, nums_set, List.getD_eq_getElem?_getD]⟩
set_option maxHeartbeats 8000000 in
set_option maxRecDepth 100000 in
theorem matchings_1 (l0 : List Int) (hw : Word l0) (A0 : Option Addr) (c0 n m Bn Bo Bm Bw Br : Nat) (hn : n = l0.length / 2) (hmn : m = n / 2 + 1) (hc0 : l0.length ≤ c0) : ∀ (d i : Nat) (used out : List Int) (A : Option Addr) (c : Nat) (w : World), i + d = n →
  MEnv w l0 A0 c0 n m Bn Bo Bm Bw Br → out.length = m → w.heap[Br]? = some (.cells (nums .i64 out).toArray 2 (0, 0)) → used.Nodup → (∀ x ∈ used, 0 ≤ x ∧ x < (n : Int)) → Kd.F (Kd.int .i64) w (fun k => k ≠ Br) A used.length used → used.length ≤ c →
  Calls Try.prog 154 #[.int .i64 (i : Int), .slice A used.length c, .pointer (some ⟨Bn, 0, none⟩), .pointer (some ⟨Bo, 0, none⟩), .pointer (some ⟨Bm, 0, none⟩), .pointer (some ⟨Bw, 0, none⟩)] w fun e w' =>
   e = .returned (.tuple #[]) ∧ w.grownBy w' (some Br) ∧ w'.heap[Br]? = some (.cells (nums .i64 (matchW (crossB l0) d i used out)).toArray 2 (0, 0)) := by
 have hw12 := hw.le
 intro d
 induction d with
 | zero =>
  intro i used out A c w hi E ho hr hd hu hF hc
  obtain rfl : i = n := by omega
  have hlen := used_len hd hu
  exact matchings_1_end l0 A0 c0 i m Bn Bo Bm Bw Br used out A c w (by omega) E ho hr (by omega) (by omega)
 | succ d ih =>
  intro i used out A c w hi E ho hr hd hu hF hc
  have hlen := used_len hd hu
  have HW := Aside0.mk hw
  have HN := Aside0.mk hn
  have HMN := Aside0.mk hmn
  have HC0 := Aside0.mk hc0
  have HI := Aside0.mk hi
  have HE := Aside0.mk E
  have HO := Aside0.mk ho
  have HR := Aside0.mk hr
  have HD := Aside0.mk hd
  have HU := Aside0.mk hu
  have HF := Aside0.mk hF
  have HC := Aside0.mk hc
  have HIH := Aside0.mk ih
  have t0 : ((i : Int) == (n : Int)) = false := by simp; omega
  have W1 := Aside0.mk (show IntKind.i64.wrap ((i : Int) + 1) = ((i + 1 : Nat) : Int) from (i64_w _).trans (wS (by omega)))
  have h1 := E.cn
  have h3 := E.cm
  have hi6 : i < 6 := by omega
  have hn6 : n ≤ 6 := by omega
  clear hw hn hmn hc0 hi E ho hr hd hu hF hc ih
  go_enter Try.func154, Try.ntmps154
  go_wp2_with fail
  refine (HIH.out (i + 1) used out A c w (by have := HI.out; omega) HE.out HO.out HR.out HD.out HU.out HF.out HC.out).mono ?_
  rintro e w1 ⟨rfl, hg1, hr1⟩
  have HG1 := Aside0.mk hg1
  have HR1 := Aside0.mk hr1
  clear hg1 hr1
  go_wp2
  go_loopw [8] (fun s wr => ∃ j k : Nat, s = .int .i64 (k : Int) ∧ Aside0 (k = i + 1 + j) ∧ Aside0 (j ≤ d) ∧ Aside0 (w.grownBy wr (some Br)) ∧ Aside0 (wr.heap[Br]? = some (.cells (nums .i64 (matchTo (crossB l0) d i used out j)).toArray 2 (0, 0))))
   (fun s _ => n - (intOf s).toNat)
  case atStart => exact ⟨0, i + 1, rfl, ⟨rfl⟩, ⟨Nat.zero_le _⟩, HG1, HR1⟩
  case round =>
   clear h1 h3
   obtain ⟨j, k, rfl, HK, HJ, HG, HH⟩ := hrel
   have HE1 := Aside0.mk (HE.out.grown HG.out)
   have h1 := HE1.out.cn
   have h3 := HE1.out.cm
   have h4 := HE1.out.cw
   by_cases hlt : j < d
   ·have hk6 : k < 6 := by have := HI.out; have := HK.out; omega
    have hkn := Aside0.mk (show k < n from by have := HI.out; have := HK.out; omega)
    have t1 : decide ((k : Int) < (n : Int)) = true := decide_eq_true (by have := hkn.out; omega)
    have t2 : decide (k < n) = true := decide_eq_true hkn.out
    have HLT := Aside0.mk hlt
    clear hlt
    cases ca : used.contains (i : Int) with
    | true =>
     have CA := Aside0.mk ca
     clear ca
     go_wp2_with (first | (go_at_call 155; obtain ⟨q, hq⟩ := Ev.rounds (contains_ev used (i : Int) (by omega)); refine (slices_Contains_int64_int64.calls q A c used (i : Int) true _ (Kd.F_now (Kd.F_grown HF.out HG.out (fun k hk e => hk (Option.some.inj e)))) HC.out (by rw [hq, CA.out])).mono ?_; clear hq; rintro e w2 ⟨rfl, ⟨nd, rfl⟩⟩))
     go_roundw
     case rel => exact ⟨j + 1, k + 1, rfl, ⟨by rw [HK.out]; omega⟩, ⟨HLT.out⟩, ⟨grown_drewN HG.out _⟩, ⟨by rw [matchTo_succ, CA.out]; exact HH.out⟩⟩
     case measure => have := hkn.out; simp [intOf]; omega
    | false =>
     have CA := Aside0.mk ca
     clear ca
     cases cb : used.contains (k : Int) with
     | true =>
      have CB := Aside0.mk cb
      clear cb
      go_wp2_with (first | (go_at_call_of 155 (Value.int .i64 (i : Int)); obtain ⟨q, hq⟩ := Ev.rounds (contains_ev used (i : Int) (by omega)); refine (slices_Contains_int64_int64.calls q A c used (i : Int) false _ (Kd.F_now (Kd.F_grown HF.out HG.out (fun k hk e => hk (Option.some.inj e)))) HC.out (by rw [hq, CA.out])).mono ?_; clear hq; rintro e w2 ⟨rfl, ⟨nd, rfl⟩⟩) | (go_at_call_of 155 (Value.int .i64 (k : Int)); obtain ⟨q, hq⟩ := Ev.rounds (contains_ev used (k : Int) (by omega)); refine (slices_Contains_int64_int64.calls q A c used (k : Int) true _ (Kd.C_drewN (Kd.F_now (Kd.F_grown HF.out HG.out (fun k hk e => hk (Option.some.inj e)))) _) HC.out (by rw [hq, CB.out])).mono ?_; clear hq; rintro e w2 ⟨rfl, ⟨nd, rfl⟩⟩))
      go_roundw
      case rel => exact ⟨j + 1, k + 1, rfl, ⟨by rw [HK.out]; omega⟩, ⟨HLT.out⟩, ⟨grown_drewN HG.out _⟩, ⟨by rw [matchTo_succ, CA.out, ← HK.out, CB.out]; exact HH.out⟩⟩
      case measure => have := hkn.out; simp [intOf]; omega
     | false =>
      have CB := Aside0.mk cb
      clear cb
      cases cc : crossB l0 i k with
      | false =>
       have CC := Aside0.mk cc
       clear cc
       go_wp2_with (first | (go_at_call_of 155 (Value.int .i64 (i : Int)); obtain ⟨q, hq⟩ := Ev.rounds (contains_ev used (i : Int) (by omega)); refine (slices_Contains_int64_int64.calls q A c used (i : Int) false _ (Kd.F_now (Kd.F_grown HF.out HG.out (fun k hk e => hk (Option.some.inj e)))) HC.out (by rw [hq, CA.out])).mono ?_; clear hq; rintro e w2 ⟨rfl, ⟨nd, rfl⟩⟩) | (go_at_call_of 155 (Value.int .i64 (k : Int)); obtain ⟨q, hq⟩ := Ev.rounds (contains_ev used (k : Int) (by omega)); refine (slices_Contains_int64_int64.calls q A c used (k : Int) false _ (Kd.C_drewN (Kd.F_now (Kd.F_grown HF.out HG.out (fun k hk e => hk (Option.some.inj e)))) _) HC.out (by rw [hq, CB.out])).mono ?_; clear hq; rintro e w2 ⟨rfl, ⟨nd, rfl⟩⟩) | (go_at_call 113; obtain ⟨q, hq⟩ := Ev.rounds (icross_ev l0 HW.out i k (by have := HN.out; have := HI.out; omega) (by have := HN.out; have := hkn.out; omega)); refine (impl_cross.calls q A0 c0 l0 (i : Int) (k : Int) false _ (Kd.C_drewN (Kd.F_now HE1.out.rd) _) HC0.out (by rw [hq, CC.out])).mono ?_; clear hq; rintro e w2 ⟨rfl, ⟨nd, rfl⟩⟩))
       go_roundw
       case rel => exact ⟨j + 1, k + 1, rfl, ⟨by rw [HK.out]; omega⟩, ⟨HLT.out⟩, ⟨grown_drewN HG.out _⟩, ⟨by rw [matchTo_succ, CA.out, ← HK.out, CB.out, CC.out]; exact HH.out⟩⟩
       case measure => have := hkn.out; simp [intOf]; omega
      | true =>
       have CC := Aside0.mk cc
       clear cc
       go_wp2_with (first | (go_at_call_of 155 (Value.int .i64 (i : Int)); obtain ⟨q, hq⟩ := Ev.rounds (contains_ev used (i : Int) (by omega)); refine (slices_Contains_int64_int64.calls q A c used (i : Int) false _ (Kd.F_now (Kd.F_grown HF.out HG.out (fun k hk e => hk (Option.some.inj e)))) HC.out (by rw [hq, CA.out])).mono ?_; clear hq; rintro e w2 ⟨rfl, ⟨nd, rfl⟩⟩) | (go_at_call_of 155 (Value.int .i64 (k : Int)); obtain ⟨q, hq⟩ := Ev.rounds (contains_ev used (k : Int) (by omega)); refine (slices_Contains_int64_int64.calls q A c used (k : Int) false _ (Kd.C_drewN (Kd.F_now (Kd.F_grown HF.out HG.out (fun k hk e => hk (Option.some.inj e)))) _) HC.out (by rw [hq, CB.out])).mono ?_; clear hq; rintro e w2 ⟨rfl, ⟨nd, rfl⟩⟩) | (go_at_call 113; obtain ⟨q, hq⟩ := Ev.rounds (icross_ev l0 HW.out i k (by have := HN.out; have := HI.out; omega) (by have := HN.out; have := hkn.out; omega)); refine (impl_cross.calls q A0 c0 l0 (i : Int) (k : Int) true _ (Kd.C_drewN (Kd.F_now HE1.out.rd) _) HC0.out (by rw [hq, CC.out])).mono ?_; clear hq; rintro e w2 ⟨rfl, ⟨nd, rfl⟩⟩))
       obtain ⟨i0, hi, hz0, hz1, hz2⟩ := info_parts info2
       have HFW := Aside0.mk (Kd.F_grown HF.out HG.out (fun k hk e => hk (Option.some.inj e)))
       have h3a : ∀ (q : Nat) (o : Obj), ((wr.drewN q).alloc o).cell? ⟨Bm, 0, none⟩ = some (.func (.func 154) #[] #[.pointer (some ⟨Bn, 0, none⟩), .pointer (some ⟨Bo, 0, none⟩), .pointer (some ⟨Bm, 0, none⟩), .pointer (some ⟨Bw, 0, none⟩)]) := fun q o => (HE1.out.grown (grown_alloc (grown_drewN (grown_refl _ _) q) o)).cm
       go_region_law (first
        | (refine goes_ Try.func156 (by kernel_rfl) rfl #[.slice A used.length c] (by rfl) rfl rfl (by simp [Act.eval, Act.put]) ?_; refine (slices_Clip_int64_int64.calls A used.length c _ HC.out).mono ?_; rintro e w2 ⟨rfl, rfl⟩; refine ⟨_, rfl, ?_⟩)
        | (refine step_append_full rfl (.tmp 52) (.tmp 55) 22 2 rfl Try.underlying22 info2 A used.length 2 wr.heap.size used [(i : Int), (k : Int)] ?p1 ?p2 ?p3 ?p4 rfl (by decide) ?p5 ?_; (case p1 => simp [Act.eval, Act.put]); (case p2 => simp [Act.eval, Act.put]); (case p3 => repeat (first | exact Kd.F_now HFW.out | (with_reducible refine Kd.C_alloc ?_ _) | (with_reducible refine Kd.C_drewN ?_ _) | (with_reducible refine Kd.C_drew ?_))); (case p4 => repeat (first | exact heap_alloc_new _ _ | (with_reducible refine blk_drewN ?_ _) | (with_reducible refine blk_drew ?_))); (case p5 => omega); intro v1 w2 ho2 hg2; obtain ⟨A2, c2, rfl, hl2, _⟩ := Kd.R_reads ho2; have HGN := Aside0.mk (grown_trans (show wr.grownBy _ none from by repeat (first | exact grown_refl _ _ | (with_reducible refine grown_alloc ?_ _) | (with_reducible refine grown_drewN ?_ _) | (with_reducible refine grown_drew ?_))) hg2); have HF2 := Aside0.mk (Kd.F_mono (ok' := fun k => k ≠ Br) (Kd.R_F ho2) (fun q hq e => by have := HE1.out.lt; subst e; simp at hq; omega)); have HL2 := Aside0.mk hl2; clear ho2 hg2 hl2; have h3b := (HE1.out.grown (grown_of_none HGN.out _)).cm)
        | (refine callv_ Try.func154 (by kernel_rfl) rfl #[.pointer (some ⟨Bn, 0, none⟩), .pointer (some ⟨Bo, 0, none⟩), .pointer (some ⟨Bm, 0, none⟩), .pointer (some ⟨Bw, 0, none⟩)] #[.int .i64 ((i + 1 : Nat) : Int), .slice A2 (used ++ [(i : Int), (k : Int)]).length c2] _ (by rfl) rfl rfl ?q1 ?q2 rfl ?_; (case q1 => simp [Act.eval, Act.put]); (case q2 => simp [Act.eval, Act.put]; exact W1.out); refine (HIH.out (i + 1) (used ++ [(i : Int), (k : Int)]) _ A2 c2 w2 (by have := HI.out; omega) (HE1.out.grown (grown_of_none HGN.out _)) (by rw [matchTo_len, HO.out]) ((HGN.out.block Br HE1.out.lt (by simp)).trans HH.out) (used_app HD.out CA.out CB.out (by have := HK.out; omega)) (mem_app HU.out (by have := HI.out; omega) hkn.out) HF2.out HL2.out).mono ?_; rintro e w3 ⟨rfl, hg3, hr3⟩; refine ⟨_, rfl, ?_⟩; have HG3 := Aside0.mk (grown_trans (grown_trans HG.out (grown_of_none HGN.out _)) hg3); have HR3 := Aside0.mk hr3; clear hg3 hr3))
       all_goals
        go_wp2
        go_roundw
        case rel => exact ⟨j + 1, k + 1, rfl, ⟨by rw [HK.out]; omega⟩, ⟨HLT.out⟩, ⟨HG3.out⟩, ⟨by rw [matchTo_succ, CA.out, ← HK.out, CB.out, CC.out]; exact HR3.out⟩⟩
        case measure => have := hkn.out; simp [intOf]; omega
   ·have t1 : decide ((k : Int) < (n : Int)) = false := decide_eq_false (by have := HI.out; have := HK.out; omega)
    have t2 : decide (k < n) = false := decide_eq_false (by have := HI.out; have := HK.out; omega)
    have HJD := Aside0.mk (show j = d by have := HJ.out; omega)
    clear hlt
    go_wp2_with fail
    go_end0
    exact ⟨rfl, HG.out, by rw [matchW]; have := HH.out; rw [HJD.out] at this; exact this⟩
set_option maxHeartbeats 8000000 in
set_option maxRecDepth 100000 in
theorem impl_matchings.calls (A0 : Option Addr) (c0 : Nat) (l0 : List Int) (r : List Int) (w : World) (hr0 : Kd.C (Kd.int .i64) w A0 l0.length l0) (hc0 : l0.length ≤ c0) (h : impl_matchings.f l0 = some r) :
  Calls Try.prog 110 #[.slice A0 l0.length c0] w fun e w' => ∃ v0_ : Value, e = .returned v0_ ∧ Kd.R (Kd.int .i64) 2 w' w.heap.size (fun _ => True) v0_ r ∧ Below w.heap.size w w' := by
 have hf : isW l0 = true ∧ r = matchV l0 := by
  unfold impl_matchings.f at h
  by_cases hk : isW l0 = true
  ·rw [if_pos hk] at h; exact ⟨hk, (Option.some.inj h).symm⟩
  ·rw [if_neg hk] at h; exact absurd h (by simp)
 have hw := (isW_iff l0).1 hf.1
 have hle := hw.le
 have HW := Aside0.mk hw
 have HRR := Aside0.mk hf.2
 obtain ⟨n, hn⟩ : ∃ n, n = l0.length / 2 := ⟨_, rfl⟩
 have hch : impl_chords.f l0 = some (n : Int) := by rw [hn]; exact chords_f l0 hle
 obtain ⟨m, hm⟩ : ∃ m, m = n / 2 + 1 := ⟨_, rfl⟩
 have CH := Aside0.mk hch
 have HN := Aside0.mk hn
 have HM := Aside0.mk hm
 have hn6 : n ≤ 6 := by omega
 have hmk := make_ints (P := Try.prog) Try.underlying22 info2 ((n : Int) / 2 + 1) m (by omega) (by omega)
 have HR := Aside0.mk hr0
 have HC := Aside0.mk hc0
 clear hr0 hc0 h hf hw hle hch hn hm
 have hmf : ∀ (fn : Fn) (first cap : Array Value) (w : World), (Instr.makeFunc fn first cap).run Try.prog w = .ok (.func fn first cap) w := fun _ _ _ _ => rfl
 go_enter Try.func110, Try.ntmps110
 go_wp2_with (first | (go_at_call 149; refine (impl_chords.calls A0 c0 l0 _ _ (Kd.C_alloc HR.out _) HC.out CH.out).mono ?_; rintro e w' ⟨rfl, ⟨nd, rfl⟩⟩))
 refine (matchings_1 l0 HW.out A0 c0 n m (w.heap.size + 1) (w.heap.size + 1 + 1 + 1) (w.heap.size + 1 + 1 + 1 + 1) w.heap.size (w.heap.size + 1 + 1) HN.out HM.out HC.out n 0 [] (List.replicate m 0) none 0 _ (by omega) ?he (by simp) ?hh List.nodup_nil (by simp) (Kd.F_nil _ _ _) (Nat.le_refl _)).mono ?_
 case he =>
  exact ⟨cell1 (by repeat (first | exact new_at (by simp) | refine blk_alloc ?_ _ | refine blk_drewN ?_ _)), cell1 (by repeat (first | exact new_at (by simp) | refine blk_alloc ?_ _ | refine blk_drewN ?_ _)), cell1 (by repeat (first | exact new_at (by simp) | refine blk_alloc ?_ _ | refine blk_drewN ?_ _)), cell1 (by repeat (first | exact new_at (by simp) | refine blk_alloc ?_ _ | refine blk_drewN ?_ _)), by omega, by omega, by omega, by omega, by repeat (first | exact Kd.F_mono (F_of_C HR.out) (fun k hk => by omega) | refine Kd.F_alloc ?_ _ | refine Kd.F_drewN ?_ _), by simp⟩
 case hh => repeat (first | exact new_at (by simp) | refine blk_alloc ?_ _ | refine blk_drewN ?_ _)
 rintro e w2 ⟨rfl, hg, hr⟩
 have h2 := hg.cell (a := ⟨w.heap.size + 1 + 1 + 1, 0, none⟩) (v := .slice (some ⟨w.heap.size + 1 + 1, 0, none⟩) m m) (cell1 (by repeat (first | exact new_at (by simp) | refine blk_alloc ?_ _ | refine blk_drewN ?_ _))) (by simp)
 have HG := Aside0.mk hg
 have HH := Aside0.mk hr
 clear hg hr
 go_wp2
 go_ret
 refine ⟨_, rfl, ?_, ?_⟩
 ·have := HH.out
  rw [HRR.out, matchV, ← HN.out, ← HM.out]
  exact R_of_block this (by rw [matchW_len]; simp) (by have := HM.out; unfold maxLen; omega) (by omega)
 ·exact below_grown (by repeat (first | exact Below.refl _ _ | apply below_alloc | apply pw_below_drewN)) HG.out (by omega)

end Go.Proofs.Ytfijnlbkflmkbaa.F
