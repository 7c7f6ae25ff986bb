/- Words, walks and plain laws that the row of the law FnExactThreeWebs uses. -/
import Derived.Test.YtmeggliapebkgaaZFnExactThreeWebs3
import Derived.Maps.OwnRows
import Derived.Maps.AppendAt
import Derived.Maps.GroupsBeside
import Derived.Deep.RegionLaw
import Derived.Deep.RegionLawGrows
import Derived.WalkSpells
import Derived.BigQuiet
import Derived.Maps.RangeWalk
import Derived.Deep.RegionWith
import Derived.Orders
import Derived.Laws.World
import Derived.BigRegion
import Derived.Lib.LazyBuf
section
namespace Go.Proofs.Ytmeggliapebkgaa.Pure
open Go.RowKit Go.Proofs.Ytmeggliapebkgaa.F Go.Proofs.YtmeggliapebkgaaW.PrintWords Go.Proofs.YtmeggliapebkgaaW.PrintLast
theorem wS {n : Nat} (h : n < 4611686018427387904) : wrap64 ((n : Int) + 1) = ((n + 1 : Nat) : Int) := by unfold wrap64; omega
theorem rdN (l : List Int) (n : Nat) : rd l (n : Int) = l.getD n 0 := by unfold rd; rw [Int.toNat_natCast]
theorem drop_cons {l : List Int} {n : Nat} (h : n < l.length) : l.drop n = l.getD n 0 :: l.drop (n + 1) := by
  rw [List.drop_eq_getElem_cons h, List.getD_eq_getElem?_getD, List.getElem?_eq_getElem h]; rfl
theorem take_snoc {l : List Int} {n : Nat} (h : n < l.length) : l.take (n + 1) = l.take n ++ [l.getD n 0] := by
  rw [List.take_succ_eq_append_getElem h, List.getD_eq_getElem?_getD, List.getElem?_eq_getElem h]; rfl
theorem eqS_l0 (a b : List Int) (hl : a.length = b.length) (hb : a.length < 4611686018427387904) : ∀ d n, n + d = a.length → Ev (fun k => laws_eqInt64S.l0 k a b (n : Int)) (decide (a.drop n = b.drop n)) := by
  intro d
  induction d with
  | zero =>
    intro n hn
    rw [List.drop_of_length_le (by omega), List.drop_of_length_le (by omega)]
    refine Ev.step (f := fun _ => some _) (fun k => ?_) (Ev.now _)
    simp only [laws_eqInt64S.l0]; rw [if_neg (by omega)]; rfl
  | succ d ih =>
    intro n hn
    rw [drop_cons (l := a) (by omega), drop_cons (l := b) (by omega)]
    by_cases e : a.getD n 0 = b.getD n 0
    · refine Ev.step (f := fun k => laws_eqInt64S.l0 k a b ((n + 1 : Nat) : Int)) (fun k => ?_) ?_
      · simp only [laws_eqInt64S.l0]; rw [if_pos (by omega), if_pos (by omega), if_pos (by omega), rdN, rdN, if_pos e, wS (by omega)]
      · rw [e, show (decide (b.getD n 0 :: a.drop (n + 1) = b.getD n 0 :: b.drop (n + 1))) = decide (a.drop (n + 1) = b.drop (n + 1)) from by simp]
        exact ih (n + 1) (by omega)
    · refine Ev.step (f := fun _ => some false) (fun k => ?_) ?_
      · simp only [laws_eqInt64S.l0]; rw [if_pos (by omega), if_pos (by omega), if_pos (by omega), rdN, rdN, if_neg e]
      · rw [show (decide (a.getD n 0 :: a.drop (n + 1) = b.getD n 0 :: b.drop (n + 1))) = false from decide_eq_false fun h => e (List.cons.inj h).1]
        exact Ev.now _
theorem eqS_ev (a b : List Int) (hb : a.length < 4611686018427387904) : Ev (fun k => laws_eqInt64S.f k a b) (decide (a = b)) := by
  by_cases hl : a.length = b.length
  · refine Ev.congr (f := fun k => laws_eqInt64S.l0 k a b ((0 : Nat) : Int)) (fun k => ?_) ?_
    · unfold laws_eqInt64S.f; rw [if_pos (by omega)]; rfl
    · exact eqS_l0 a b hl hb a.length 0 (by omega)
  · refine Ev.congr (f := fun _ => some false) (fun k => ?_) ?_
    · unfold laws_eqInt64S.f; rw [if_neg (by omega)]
    · rw [decide_eq_false fun h => hl (by rw [h])]; exact Ev.now _
theorem toS_l0 (a : List Int) (hb : a.length < 4611686018427387904) : ∀ d n, n + d = a.length → Ev (fun k => laws_toInt64S.l0 k a (a.take n ++ List.replicate d 0) (n : Int)) a := by
  intro d
  induction d with
  | zero =>
    intro n hn
    refine Ev.step (f := fun _ => some a) (fun k => ?_) (Ev.now _)
    simp only [laws_toInt64S.l0]; rw [if_neg (by omega), List.take_of_length_le (by omega)]; simp
  | succ d ih =>
    intro n hn
    refine Ev.step (f := fun k => laws_toInt64S.l0 k a (a.take (n + 1) ++ List.replicate d 0) ((n + 1 : Nat) : Int)) (fun k => ?_) (ih (n + 1) (by omega))
    have hlen : (a.take n ++ List.replicate (d + 1) 0).length = a.length := by simp; omega
    simp only [laws_toInt64S.l0]
    rw [if_pos (by omega), if_pos (by omega), if_pos (by rw [hlen]; omega), rdN, wS (by omega), Int.toNat_natCast, take_snoc (by omega)]
    congr 1
    rw [List.set_append_right _ _ (List.length_take_le _ _), List.replicate_succ]
    have : n - (a.take n).length = 0 := by simp; omega
    rw [this, List.set_cons_zero]; simp
theorem toS_ev (a : List Int) (hb : a.length ≤ 35184372088832) : Ev (fun k => laws_toInt64S.f k a) a := by
  refine Ev.congr (f := fun k => laws_toInt64S.l0 k a (a.take 0 ++ List.replicate a.length 0) ((0 : Nat) : Int)) (fun k => ?_) (toS_l0 a (by omega) a.length 0 (by omega))
  unfold laws_toInt64S.f; rw [if_pos (by omega), Int.toNat_natCast, if_pos hb]; simp
theorem in_f (a b c : Int) : impl_in.f a b c = some (decide (b ≤ a ∧ a ≤ c)) := by
  unfold impl_in.f
  by_cases h : a ≥ b
  · rw [if_pos h]; simp [h]
  · rw [if_neg h]; simp [h]
theorem spec_in_f (a b c : Int) : spec_l01In.f a b c = some (decide (b ≤ a ∧ a ≤ c)) := by
  unfold spec_l01In.f
  by_cases h : a ≥ b
  · rw [if_pos h]; simp [h]
  · rw [if_neg h]; simp [h]
end Go.Proofs.Ytmeggliapebkgaa.Pure
end
section
namespace Go.Proofs.Ytmeggliapebkgaa.F
section
open Go.RowKit Go.Proofs.YtmeggliapebkgaaW.PrintWords Go.Proofs.YtmeggliapebkgaaW.PrintLast Go.Proofs.YtmeggliapebkgaaW.PrintMore
attribute [local go_sem] max2_int min2_int max_two min_two max_three min_three max_four min_four   
set_option linter.unusedVariables false
set_option linter.unusedSimpArgs false
open Go.Proofs.Ytmeggliapebkgaa.Mem Go.Proofs.Ytmeggliapebkgaa.Web Go.Maps
theorem webKey : Keyed Try.prog 2 := int_keyed Try.underlying2
theorem webZero (w : World) : (zeroValue 72).run Try.prog w = .ok (.slice none 0 0) w := by kernel_rfl
theorem info_webint : (Try.prog.info? 3).map (fun i => (i.zero, i.size, i.bytes)) = some (some (.int .i64 0), 1, 8) := by kernel_rfl
theorem row_of_C {e n : Nat} {w : World} {A : Option Addr} {rows : List (List Int)} (h : Kd.C (Kd.slice e (Kd.int .i64)) w A n rows) (j : Nat) (hj : j < n) : ∃ ad Aa ca, A = some ad ∧ w.cell? (ad.add j) = some (.slice Aa (rows.getD j []).length ca) ∧ (rows.getD j []).length ≤ ca ∧ Kd.C (Kd.int .i64) w Aa (rows.getD j []).length (rows.getD j []) := by
 obtain ⟨hl, _, hc⟩ := h
 obtain ⟨ad, rfl, hc2⟩ := hc (by omega)
 have hjl : j < rows.length := by omega
 obtain ⟨c, hcl, ⟨Aa, ca, rfl, hle, hC⟩, hcell⟩ := hc2 j _ (List.getElem?_eq_getElem hjl)
 have h0 := hcell 0 _ rfl
 rw [show (Kd.slice e (Kd.int .i64)).sz = 1 from rfl, Nat.mul_one, Nat.add_zero] at h0
 have hg : rows.getD j [] = rows[j] := by rw [List.getD_eq_getElem?_getD, List.getElem?_eq_getElem hjl]; rfl
 rw [hg]
 exact ⟨ad, Aa, ca, rfl, h0, hle, hC⟩
theorem step_append_own_at {P : Program} {ops : Array Oper} {o : Oper} {a : Act} {w : World} {K : Act → World → Prop} {Q : Exit → Act → World → Prop} {E : Prop} (hgd : o.guard = none) (s x : Operand) (t : TypeId)
  (ho : o.op = .call { callee := .builtin .append, args := #[s, x], argTypes := #[t, t] })
  (base : Nat) (e : TypeId) (i : TypeInfo) (z : Value) (size bytes : Nat) (ht : P.underlying t = some (.slice e)) (hi : P.info? e = some i) (hz : i.zero = some z)
  (hsize : i.size = size) (hby : i.bytes = bytes) (hzs : z.cells.size = size) (hsz : 0 < size)
  (v : Value) (n : Nat) (xs : List Value) (hs : a.eval s = v) (hown : w.ownsRow base e size v n xs)
  (ad : Addr) (m c : Nat) (news : List Value) (hx : a.eval x = .slice (some ad) m c) (hl : news.length = m * size) (hnews : ∀ j u, news[j]? = some u → w.cell? (ad.add j) = some u) (h1 : ∀ u ∈ news, u.oneCell' = true)
  (h63 : n + m ≤ maxLen) (hbytes : (n + m) * bytes ≤ 140737488355328) (hbase : base ≤ w.heap.size)
  (h : ∀ v' w', w'.ownsRow base e size v' (n + m) (xs ++ news) → w.grownBy w' v.ownBlock → (v' = .slice none 0 0 ↔ v = .slice none 0 0 ∧ m = 0) → (v'.ownBlock = v.ownBlock ∨ v'.ownBlock = some w.heap.size) → K (a.put o.dst v') w') :
  if Region.wanted o (yielded ops a.tmps) = true then Oper.wp P o a w K Q else E := by
 have hw : Region.wanted o (yielded ops a.tmps) = true := by simp [Region.wanted, hgd]
 rw [if_pos hw]
 obtain ⟨v', w', hr, h2, h3, h4, h5⟩ := run_append_own_at (P := P) (w := w) base t o.type e i z size bytes ht hi hz hsize hby hzs hsz v n xs hown ad m c news hl hnews h1 h63 hbytes hbase
 unfold Oper.wp execOp
 simp only [ho, resolve, invoke, builtin, Sem.run_bind, Sem.run_pure, Result.andThen_ok, List.map_toArray, List.map_cons, List.map_nil, hs, hx, hr]
 exact h v' w' h2 h3 h4 h5
set_option maxHeartbeats 4000000 in
set_option maxRecDepth 100000 in
theorem stands_walk (legs : List Int) (forks : List (List Int)) (Bw : Nat) (Al : Option Addr) (cl : Nat) (Af : Option Addr) (cf : Nat) (h8 : legs.length + forks.length ≤ 8) (h3 : ∀ f ∈ forks, f.length = 3) (hwf : ∀ p ∈ inc legs forks, (Lit.int .i64 p.1).wf = true) (w : World)
  (hb : w.heap[Bw]? = some (.cells #[.slice Al legs.length cl, .slice Af forks.length cf] 30 (0, 0))) (hl : Kd.C (Kd.int .i64) w Al legs.length legs) (hf : Kd.C (Kd.slice 2 (Kd.int .i64)) w Af forks.length forks) :
  Calls Try.prog 50 #[.pointer (some ⟨Bw, 0, none⟩)] w fun e w' => e = .returned (.map (some w.heap.size)) ∧ w'.ownsGroups (H := Unit) Try.prog 2 (w.heap.size + 1) 3 .i64 w.heap.size (inc legs forks).length (GTo (inc legs forks) (inc legs forks).length) ∧ Below w.heap.size w w' := by
 have hmm := @run_makeMap Try.prog
 obtain ⟨i0, hi, hz0, hz1, hz2⟩ := info_parts info_webint
 obtain ⟨nl, hnl⟩ : ∃ nl, nl = legs.length := ⟨_, rfl⟩
 obtain ⟨nf, hnf⟩ : ∃ nf, nf = forks.length := ⟨_, rfl⟩
 obtain ⟨I, hI⟩ : ∃ I, I = inc legs forks := ⟨_, rfl⟩
 have hIl : I.length = nl + 3 * nf := by rw [hI, inc_len h3, hnl, hnf]
 have hleg : ∀ k, k < nl → I.getD k (0, 0) = (legs.getD k 0, k) := fun k hk => by rw [hI]; exact inc_leg (by omega)
 have hfork : ∀ i k, i < nf → k < 3 → I.getD (nl + 3 * i + k) (0, 0) = ((forks.getD i []).getD k 0, nl + i) := fun i k hi hk => by rw [hI, hnl]; exact inc_fork h3 (by omega) hk
 have hwI : ∀ p, p < I.length → (Lit.int .i64 (I.getD p (0, 0)).1).wf = true := fun p hp => by rw [hI] at hp ⊢; exact wf_at hwf hp
 have hcb := blk_cell hb
 have hn8 : nl + nf ≤ 8 := by omega
 rw [← hnl] at hl
 rw [← hnf] at hf
 rw [← hnl, ← hnf] at hb
 rw [← hI]
 have H3 := Aside0.mk h3
 have HIL := Aside0.mk hIl
 have HLEG := Aside0.mk hleg
 have HFORK := Aside0.mk hfork
 have HWI := Aside0.mk hwI
 have HL := Aside0.mk hl
 have HF := Aside0.mk hf
 have HBK := Aside0.mk hb
 have HNF := Aside0.mk hnf
 have c0 : (w.alloc (.map #[] 0)).cell? ⟨Bw, 0, none⟩ = some (.slice Al nl cl) := (blk_cell (blk_alloc hb _) 0).trans rfl
 have HSTART := Aside0.mk (World.ownsGroups_made (H := Unit) w Try.prog 2 3 .i64)
 clear h8 h3 hwf hl hf hb hIl hleg hfork hwI hcb hI hnl hnf
 go_enter Try.func50, Try.ntmps50
 go_wp2
 go_loopw [16] (fun s16 wr => ∃ k : Nat, s16 = .int .i64 (k : Int) ∧ Aside0 (k ≤ nl) ∧ Aside0 (wr.ownsGroups (H := Unit) Try.prog 2 (w.heap.size + 1) 3 .i64 w.heap.size k (GTo I k)) ∧ Aside0 (Below w.heap.size w wr) ∧ Aside0 (w.heap.size + 1 ≤ wr.heap.size))
  (fun s16 _ => nl - (intOf s16).toNat)
 case atStart => exact ⟨0, rfl, ⟨Nat.zero_le _⟩, HSTART, ⟨(Below.refl _ _).alloc (Nat.le_refl _) _⟩, ⟨by simp⟩⟩
 case round =>
  clear HSTART c0 hmm
  obtain ⟨k, rfl, HK, HO, HB, HS⟩ := hrel
  by_cases hlt : k < nl
  ·have t1 : decide ((k : Int) < (nl : Int)) = true := decide_eq_true (by omega)
   have t2 : decide (k < nl) = true := decide_eq_true hlt
   have HLT := Aside0.mk hlt
   have hIk := HLEG.out k hlt
   have hwk := HWI.out k (by rw [HIL.out]; omega)
   rw [hIk] at hwk
   obtain ⟨ad, ead, hcell⟩ := cell_of_C (Kd.C_below HL.out HB.out) k hlt
   subst ead
   obtain ⟨e, he⟩ : ∃ e, e = legs.getD k 0 := ⟨_, rfl⟩
   rw [← he] at hcell hIk hwk
   have hkey := keyOf_int_mk Try.underlying2 hwk
   have HIK := Aside0.mk hIk
   clear he hIk hwk
   have hs := HS.out
   go_wp2_with (first
    | (at_lookup; refine wpList_lookup_groups _ rfl _ _ 76 rfl 2 72 3 .i64 webKey Try.underlying76 (webZero _) (w.heap.size + 1) w.heap.size k _ rfl HO.out (by unfold maxLen; omega) _ _ rfl hkey ?_; intro v zs hat hoi hzl hback)
    | (at_builtin; refine wpList_append_own_at _ rfl _ _ 72 rfl (w.heap.size + 1) 3 i0 (.int .i64 0) 1 8 Try.underlying72 hi hz0 hz1 hz2 rfl (by decide) _ _ _ rfl (hoi.1.alloc _) ⟨wr.heap.size, 0, none⟩ 1 1 [.int .i64 (k : Int)] rfl rfl (cell_one_new _ _ _) (ints_oneCell .i64 [(k : Int)]) (by unfold maxLen; omega) (by omega) (by simp; omega) ?_; intro v' w1 hown' hgrow hnil hloc)
    | (at_mapUpdate; refine wpList_mapUpdate_back _ rfl _ _ _ 76 rfl hback rfl rfl rfl ((World.grownBy_alloc _ _ _).trans hgrow) (hoi.appended hown' (WalkArith.wf_i64 (by omega))) (by simp; omega) (hloc.imp id (fun h => ⟨_, h, by simp⟩)) ?_; intro w2 hown2 hgrow2)
    | go_in)
   have hall := (World.grownBy_alloc wr _ _).trans hgrow
   go_roundw
   case rel =>
    have hz := GTo_zs (I := I) (p := k) (by rw [HIL.out]; omega) hoi hat
    refine ⟨k + 1, (by first | rfl | exact congrArg _ (wS (by omega))), ⟨HLT.out⟩, ⟨?_⟩, ⟨HB.out.groups hoi hall hgrow2 HB.out.size (Nat.le_succ _) (Nat.le_refl _)⟩, ⟨Nat.le_trans HS.out (Nat.le_trans hall.size hgrow2.size)⟩⟩
    rw [GTo_step (by rw [HIL.out]; omega) HIK.out hz (hoi.appended hown' (WalkArith.wf_i64 (by omega)))]
    exact hown2
   case measure => (try rw [wS (by omega)]); simp [intOf]; omega
  have t1 : decide ((k : Int) < (nl : Int)) = false := decide_eq_false (by omega)
  have t2 : decide (k < nl) = false := decide_eq_false hlt
  have hk : k = nl := by have := HK.out; omega
  subst hk
  clear hlt HK
  have c1 : wr.cell? ⟨Bw, 1, none⟩ = some (.slice Af nf cf) := (blk_cell (blk_below HBK.out HB.out) 1).trans rfl
  go_wp2_with fail
  clear c1
  go_loopw [35] (fun s35 wr => ∃ i : Nat, s35 = .int .i64 (i : Int) ∧ Aside0 (i ≤ nf) ∧ Aside0 (wr.ownsGroups (H := Unit) Try.prog 2 (w.heap.size + 1) 3 .i64 w.heap.size (k + 3 * i) (GTo I (k + 3 * i))) ∧ Aside0 (Below w.heap.size w wr) ∧ Aside0 (w.heap.size + 1 ≤ wr.heap.size))
   (fun s35 _ => nf - (intOf s35).toNat)
  case atStart => exact ⟨0, rfl, ⟨Nat.zero_le _⟩, HO, HB, HS⟩
  case round =>
   clear HO HB HS
   obtain ⟨i, rfl, HI, HO, HB, HS⟩ := hrel
   by_cases hi2 : i < nf
   rotate_left
   ·have t3 : decide ((i : Int) < (nf : Int)) = false := decide_eq_false (by omega)
    have t4 : decide (i < nf) = false := decide_eq_false hi2
    have hi : i = nf := by have := HI.out; omega
    clear hi2
    go_wp2_with fail
    go_ret
    refine ⟨rfl, ?_, HB.out⟩
    rw [HIL.out, ← hi]
    exact HO.out
   have t3 : decide ((i : Int) < (nf : Int)) = true := decide_eq_true (by omega)
   have t4 : decide (i < nf) = true := decide_eq_true hi2
   have HIN := Aside0.mk hi2
   obtain ⟨ad, Aa, ca, ead, hrow0, hca, hCa⟩ := row_of_C HF.out i hi2
   subst ead
   have hrow := (HB.out.cell (World.block_lt_of_cell? w _ hrow0)).trans hrow0
   have hl3 : (forks.getD i []).length = 3 := H3.out _ (by rw [List.getD_eq_getElem?_getD, List.getElem?_eq_getElem (by rw [← HNF.out]; exact hi2)]; exact List.getElem_mem _)
   rw [hl3] at hrow hCa
   obtain ⟨fk, hfk⟩ : ∃ fk, fk = forks.getD i [] := ⟨_, rfl⟩
   rw [← hfk] at hCa hl3
   have HFK := Aside0.mk hfk
   obtain ⟨ad2, ead2, _⟩ := cell_of_C hCa 0 (by omega)
   subst ead2
   have HCA := Aside0.mk hCa
   clear hfk hl3 hCa hrow0
   go_wp2_with fail
   clear hrow
   go_loopw [42] (fun s42 wr => ∃ j : Nat, s42 = .int .i64 (j : Int) ∧ Aside0 (j ≤ 3) ∧ Aside0 (wr.ownsGroups (H := Unit) Try.prog 2 (w.heap.size + 1) 3 .i64 w.heap.size (k + 3 * i + j) (GTo I (k + 3 * i + j))) ∧ Aside0 (Below w.heap.size w wr) ∧ Aside0 (w.heap.size + 1 ≤ wr.heap.size))
    (fun s42 _ => 3 - (intOf s42).toNat)
   case atStart => exact ⟨0, rfl, ⟨Nat.zero_le _⟩, HO, HB, HS⟩
   case round =>
    clear HO HB HS
    obtain ⟨j, rfl, HJ, HO, HB, HS⟩ := hrel
    by_cases hj : j < 3
    rotate_left
    ·have t5 : decide ((j : Int) < (3 : Int)) = false := decide_eq_false (by omega)
     have t6 : decide (j < 3) = false := decide_eq_false hj
     have hj3 : j = 3 := by have := HJ.out; omega
     subst hj3
     clear hj
     go_wp2_with fail
     go_roundw
     case rel => exact ⟨i + 1, (by first | rfl | exact congrArg _ (wS (by omega))), ⟨HIN.out⟩, HO, HB, HS⟩
     case measure => (try rw [wS (by omega)]); simp [intOf]; omega
    have t5 : decide ((j : Int) < (3 : Int)) = true := decide_eq_true (by omega)
    have t6 : decide (j < 3) = true := decide_eq_true hj
    have HJ3 := Aside0.mk hj
    have hIk := HFORK.out i j hi2 hj
    have hpl : k + 3 * i + j < I.length := by rw [HIL.out]; omega
    have hwk := HWI.out _ hpl
    rw [hIk, ← HFK.out] at hwk
    rw [← HFK.out] at hIk
    obtain ⟨ad3, ead3, hcell0⟩ := cell_of_C HCA.out j hj
    obtain rfl := Option.some.inj ead3
    have hcell := (HB.out.cell (World.block_lt_of_cell? w _ hcell0)).trans hcell0
    obtain ⟨e, he⟩ : ∃ e, e = fk.getD j 0 := ⟨_, rfl⟩
    rw [← he] at hcell hIk hwk
    have hkey := keyOf_int_mk Try.underlying2 hwk
    have HIK := Aside0.mk hIk
    have HPL := Aside0.mk hpl
    have hs := HS.out
    have c2 : wr.cell? ⟨Bw, 0, none⟩ = some (.slice Al k cl) := (blk_cell (blk_below HBK.out HB.out) 0).trans rfl
    have hod : (wr.drew).ownsGroups (H := Unit) Try.prog 2 (w.heap.size + 1) 3 .i64 w.heap.size (k + 3 * i + j) (GTo I (k + 3 * i + j)) := HO.out
    obtain ⟨U, hUU⟩ : ∃ U : Nat, U = k + i := ⟨_, rfl⟩
    have hu : IntKind.i64.wrap ((k : Int) + (i : Int)) = (U : Int) := by rw [i64_w]; unfold wrap64; omega
    have HU := Aside0.mk hUU
    have hoe : ((wr.alloc (.cells #[.int .i64 (U : Int)] 3)).drew).ownsGroups (H := Unit) Try.prog 2 (w.heap.size + 1) 3 .i64 w.heap.size (k + 3 * i + j) (GTo I (k + 3 * i + j)) := hod.kept (World.grownBy_alloc wr.drew _ none) (by simp) (fun es clock _ x _ => by cases x.val.ownBlock <;> simp)
    obtain ⟨va, za, hra, hata, hoia, hzla, hbacka⟩ := hod.at webKey Try.underlying76 (webZero _) (by unfold maxLen; omega) hkey
    obtain ⟨vb, zb, hrb, hatb, hoib, hzlb, hbackb⟩ := hoe.at webKey Try.underlying76 (webZero _) (by unfold maxLen; omega) hkey
    have HATA := Aside0.mk hata
    have HATB := Aside0.mk hatb
    have HBKA := Aside0.mk hbacka
    have HBKB := Aside0.mk hbackb
    have HOIA := Aside0.mk hoia
    have HOIB := Aside0.mk hoib
    clear hata hatb hbacka hbackb hoia hoib hod hoe he hIk hwk hcell0 hpl hUU
    go_wp2_with fail
    go_region_law (first
     | (refine step_append_own_at rfl (.tmp 50) (.tmp 58) 72 rfl (w.heap.size + 1) 3 i0 (.int .i64 0) 1 8 Try.underlying72 hi hz0 hz1 hz2 rfl (by decide) va za.length (za.map (Value.int .i64)) ?s (HOIA.out.1.alloc _) ⟨wr.heap.size, 0, none⟩ 1 1 [.int .i64 (U : Int)] (by simp [Act.eval, Act.put]) rfl (cell_one_new wr _ _) (ints_oneCell .i64 [(U : Int)]) (by unfold maxLen; omega) (by omega) (by simp; omega) ?_; (case s => (simp [Act.eval, Act.put]; done)); intro v' w1 hown' hgrow hnil hloc; have HOA := Aside0.mk (HOIA.out.appended (x := (U : Int)) (w1 := w1) hown' (WalkArith.wf_i64 (by have := HU.out; omega))); obtain ⟨w2, hrun2, hown2, hg2⟩ := HBKA.out w1 v' (za ++ [(U : Int)]) ((World.grownBy_alloc wr.drew _ _).trans hgrow) HOA.out (by simp; omega) (hloc.imp id (fun h => ⟨_, h, by simp⟩)); have HZ := Aside0.mk (GTo_zs (I := I) (p := k + 3 * i + j) (by have := HPL.out; omega) HOIA.out HATA.out); have HOW2 := Aside0.mk hown2; have HBB2 := Aside0.mk ((below_drew HB.out).groups HOIA.out ((World.grownBy_alloc wr.drew _ _).trans hgrow) hg2 HB.out.size (Nat.le_succ _) (Nat.le_refl _)); have HSZ2 := Aside0.mk (Nat.le_trans (show wr.heap.size ≤ w1.heap.size from Nat.le_trans (by simp) hgrow.size) hg2.size); have HST := Aside0.mk (GTo_step (I := I) (p := k + 3 * i + j) HPL.out (by rw [HIK.out, HU.out]) HZ.out HOA.out); clear hown' hgrow hnil hloc hown2 hg2)
     | (refine step_append_own_at rfl (.tmp 50) (.tmp 58) 72 rfl (w.heap.size + 1) 3 i0 (.int .i64 0) 1 8 Try.underlying72 hi hz0 hz1 hz2 rfl (by decide) vb zb.length (zb.map (Value.int .i64)) ?s HOIB.out.1 ⟨wr.heap.size, 0, none⟩ 1 1 [.int .i64 (U : Int)] (by simp [Act.eval, Act.put]) rfl (cell_one_new wr _ _) (ints_oneCell .i64 [(U : Int)]) (by unfold maxLen; omega) (by omega) (by simp; omega) ?_; (case s => (simp [Act.eval, Act.put]; done)); intro v' w1 hown' hgrow hnil hloc; have HOA := Aside0.mk (HOIB.out.appended (x := (U : Int)) (w1 := w1) hown' (WalkArith.wf_i64 (by have := HU.out; omega))); obtain ⟨w2, hrun2, hown2, hg2⟩ := HBKB.out w1 v' (zb ++ [(U : Int)]) hgrow HOA.out (by simp; omega) (hloc.imp id (fun h => ⟨_, h, Nat.le_of_eq rfl⟩)); have HZ := Aside0.mk (GTo_zs (I := I) (p := k + 3 * i + j) (by have := HPL.out; omega) HOIB.out HATB.out); have HOW2 := Aside0.mk hown2; have HBB2 := Aside0.mk ((below_drew (below_alloc HB.out (.cells #[.int .i64 (U : Int)] 3))).groups HOIB.out hgrow hg2 (Nat.le_trans HB.out.size (by simp)) (Nat.le_succ _) (Nat.le_refl _)); have HSZ2 := Aside0.mk (Nat.le_trans (show wr.heap.size ≤ w1.heap.size from Nat.le_trans (by simp) hgrow.size) hg2.size); have HST := Aside0.mk (GTo_step (I := I) (p := k + 3 * i + j) HPL.out (by rw [HIK.out, HU.out]) HZ.out HOA.out); clear hown' hgrow hnil hloc hown2 hg2))
    all_goals
     go_wp2_with fail
     go_roundw
     case rel => exact ⟨j + 1, (by first | rfl | exact congrArg _ (wS (by omega))), ⟨HJ3.out⟩, ⟨by rw [show k + 3 * i + (j + 1) = k + 3 * i + j + 1 from rfl, HST.out]; exact HOW2.out⟩, HBB2, ⟨Nat.le_trans HS.out HSZ2.out⟩⟩
     case measure => have := HJ3.out; (try rw [wS (by omega)]); simp [intOf]; omega
end
section
open Go.RowKit Go.Proofs.YtmeggliapebkgaaW.PrintWords Go.Proofs.YtmeggliapebkgaaW.PrintLast Go.Proofs.YtmeggliapebkgaaW.PrintMore
attribute [local go_sem] max2_int min2_int max_two min_two max_three min_three max_four min_four   
set_option linter.unusedVariables false
set_option linter.unusedSimpArgs false
open Go.Proofs.Ytmeggliapebkgaa.Mem Go.Proofs.Ytmeggliapebkgaa.Web Go.Maps
set_option maxHeartbeats 2000000 in
set_option maxRecDepth 100000 in
theorem nodes_walk (nl nf : Nat) (Bw : Nat) (Al : Option Addr) (cl : Nat) (Af : Option Addr) (cf : Nat) (h8 : nl + nf ≤ 4611686018427387904) (w : World) (hb : w.heap[Bw]? = some (.cells #[.slice Al nl cl, .slice Af nf cf] 30 (0, 0))) :
  Calls Try.prog 101 #[.pointer (some ⟨Bw, 0, none⟩)] w fun e w' => e = .returned (.int .i64 ((nl + nf : Nat) : Int)) ∧ ∃ nd, w' = w.drewN nd := by
 have c0 : w.cell? ⟨Bw, 0, none⟩ = some (.slice Al nl cl) := (blk_cell hb 0).trans rfl
 have c1 : w.cell? ⟨Bw, 1, none⟩ = some (.slice Af nf cf) := (blk_cell hb 1).trans rfl
 have hu : IntKind.i64.wrap ((nl : Int) + (nf : Int)) = ((nl + nf : Nat) : Int) := by rw [i64_w]; unfold wrap64; omega
 clear hb
 go_enter Try.func101, Try.ntmps101
 go_wp2
 go_quiet (fail)
 go_wp2
 go_ret
 exact ⟨by first | rfl | (rw [hu]), _, rfl⟩
def upTo (n i : Nat) : List Int := (List.range n).map fun a => if a < i then (a : Int) else 0
theorem upTo_zero (n : Nat) : upTo n 0 = List.replicate n 0 := by
 unfold upTo
 rw [List.map_congr_left (g := fun _ => (0 : Int)) (fun a _ => if_neg (Nat.not_lt_zero _)), List.map_const']; simp
theorem upTo_succ (n i : Nat) (h : i < n) : (upTo n i).set i (i : Int) = upTo n (i + 1) := by
 apply List.ext_getElem
 ·simp [upTo]
 ·intro j h1 h2
  have hj : j < n := by simpa [upTo] using h2
  simp only [upTo, List.getElem_set, List.getElem_map, List.getElem_range]
  by_cases e : i = j
  ·subst e; rw [if_pos rfl, if_pos (by omega)]
  rw [if_neg e]
  by_cases g : j < i
  rotate_left
  ·rw [if_neg g, if_neg (by omega)]
  rw [if_pos g, if_pos (by omega)]
theorem upTo_full (n : Nat) : upTo n n = ints (List.range n) := by
 unfold upTo ints
 exact List.map_congr_left fun a ha => if_pos (List.mem_range.1 ha)
theorem upTo_len (n i : Nat) : (upTo n i).length = n := by simp [upTo]
theorem groups_own {H : Type} {P : Program} {k : TypeId} {w : World} {base : Nat} {e : TypeId} {q : IntKind} {b n : Nat} {D : DataW H} (h : w.ownsGroups P k base e q b n D) : w.ownsMap P k (rowElem w base e q) b n D := by
 obtain ⟨es, clock, hb, F, hs, hD, _⟩ := h
 exact ⟨es, clock, hb, F, hs, hD⟩
theorem own_two {w : World} {base : Nat} {e : TypeId} {v : Value} {x y : Int} (h : w.ownsInts base e .i64 v [x, y]) : ∃ g cap, v = .slice (some ⟨g, 0, none⟩) 2 cap ∧ base ≤ g ∧ g < w.heap.size ∧ w.cell? ⟨g, 0, none⟩ = some (.int .i64 x) ∧ w.cell? ⟨g, 1, none⟩ = some (.int .i64 y) := by
 have hR : Kd.R (Kd.int .i64) e w base (fun k => base ≤ k) v [x, y] := R_of_own h.1
 obtain ⟨A, c, rfl, hc, hC⟩ := Kd.R_reads hR
 obtain ⟨ad, rfl, h0⟩ := cell_of_C hC 0 (by show 0 < 2; omega)
 obtain ⟨ad', he, h1⟩ := cell_of_C hC 1 (by show 1 < 2; omega)
 obtain rfl := Option.some.inj he
 obtain ⟨g, rfl⟩ := Kd.R_head hR
 rw [add_plain] at h0 h1
 exact ⟨g, c, rfl, Kd.R_base hR g (by simp [Value.ownBlock]), Kd.R_lt hR g (by simp [Value.ownBlock]), h0, h1⟩
theorem inv_key {key : Value} {kl : Lit} (h : keyOf Try.prog 2 key = some kl) : ∃ x, key = Value.int .i64 x := by
 obtain ⟨x, hx, _⟩ := keyOf_int_inv Try.underlying2 h
 exact ⟨x, hx⟩
theorem come_of {w1 : World} {base : Nat} {I : List (Int × Nat)} {x : Int} {c : Value} {kl : Lit} {y : DataW Unit × List MemPlace} (hkey : keyOf Try.prog 2 (.int .i64 x) = some kl) (hR : rowElem w1 base 3 .i64 c = some y) (hat : ∀ zd, (GTo I I.length).atKey kl zd = y.1) :
  kl = keyL x ∧ w1.ownsInts base 3 .i64 c (ints (ends I x)) ∧ ends I x ≠ [] := by
 obtain ⟨x', hx, rfl, _⟩ := keyOf_int_inv Try.underlying2 hkey
 injection hx with _ hx
 subst hx
 obtain ⟨zs, ho, rfl⟩ := rowElem_inv hR
 have hz := GTo_zs (I := I) (p := I.length) (e := x) (Nat.le_refl _) ho (hat .nil)
 rw [List.take_length] at hz
 refine ⟨rfl, by rw [← hz]; exact ho, fun h0 => ?_⟩
 have h1 := hat .nil
 have h2 := hat (.lit (.bool true))
 have g1 := GTo_at I x .nil I.length (Nat.le_refl _)
 have g2 := GTo_at I x (.lit (.bool true)) I.length (Nat.le_refl _)
 rw [List.take_length, if_pos h0] at g1 g2
 have : (DataW.nil : DataW Unit) = .lit (.bool true) := g1.symm.trans (h1.trans (h2.symm.trans g2))
 cases this
theorem same_keyL (e x : Int) : (keyL e).sameKey (keyL x) = (e == x) := by
 unfold keyL Lit.sameKey
 rw [Bool.eq_iff_iff]; simp
theorem ints_put (l : List Nat) (i x : Nat) : (ints l).set i (x : Int) = ints (l.set i x) := by unfold ints; rw [List.map_set]
theorem left_step (p : Bool) (L : List Int) (e x : Int) : (((!p) && !L.contains e) && !(e == x)) = ((!p) && !(L ++ [x]).contains e) := by
 have h : (L ++ [x]).contains e = (L.contains e || e == x) := by
  rw [Bool.eq_iff_iff, List.contains_iff_mem, Bool.or_eq_true, List.contains_iff_mem, List.mem_append, List.mem_singleton, beq_iff_eq]
 rw [h]
 cases p <;> cases L.contains e <;> cases (e == x) <;> rfl
set_option maxHeartbeats 4000000 in
set_option maxRecDepth 100000 in
theorem partsOf_walk (legs : List Int) (forks : List (List Int)) (n Bw : Nat) (Al : Option Addr) (cl : Nat) (Af : Option Addr) (cf : Nat) (hn : n = legs.length + forks.length) (h8 : n ≤ 8) (h3 : ∀ f ∈ forks, f.length = 3) (hwf : ∀ p ∈ inc legs forks, (Lit.int .i64 p.1).wf = true) (h2 : Two (inc legs forks) n) (w : World)
  (hb : w.heap[Bw]? = some (.cells #[.slice Al legs.length cl, .slice Af forks.length cf] 30 (0, 0))) (hl : Kd.C (Kd.int .i64) w Al legs.length legs) (hf : Kd.C (Kd.slice 2 (Kd.int .i64)) w Af forks.length forks) :
  Calls Try.prog 105 #[.pointer (some ⟨Bw, 0, none⟩)] w fun e w' => ∃ v0_ : Value, e = .returned v0_ ∧ Kd.R (Kd.int .i64) 3 w' w.heap.size (fun _ => True) v0_ (ints ((List.range n).map (lbl (inc legs forks)))) ∧ Below w.heap.size w w' := by
 have hmk := make_ints (P := Try.prog) Try.underlying72 info_webint (n : Int) n rfl (by omega)
 have HN := Aside0.mk hn
 have H8 := Aside0.mk h8
 have H3 := Aside0.mk h3
 have HWF := Aside0.mk hwf
 have H2 := Aside0.mk h2
 have HBK := Aside0.mk hb
 have HL := Aside0.mk hl
 have HF := Aside0.mk hf
 obtain ⟨Bo, hBo⟩ : ∃ Bo, Bo = w.heap.size := ⟨_, rfl⟩
 have HBO := Aside0.mk hBo
 clear hn h3 hwf h2 hb hl hf
 go_enter Try.func105, Try.ntmps105
 go_wp2_with (first
  | (go_at_call 101; refine (nodes_walk legs.length forks.length Bw Al cl Af cf (by have := HN.out; have := H8.out; omega) _ HBK.out).mono ?_; rintro e w1 ⟨rfl, ⟨nd, rfl⟩⟩; rw [← HN.out]))
 rw [← hBo]
 have HH0 : Aside0 (((w.drewN nd).alloc (.cells (nums .i64 (List.replicate n 0)).toArray 3)).heap[Bo]? = some (.cells (nums .i64 (upTo n 0)).toArray 3 (0, 0))) := ⟨by rw [upTo_zero]; exact new_at hBo⟩
 have HB0 : Aside0 (Below w.heap.size w ((w.drewN nd).alloc (.cells (nums .i64 (List.replicate n 0)).toArray 3))) := ⟨below_alloc (pw_below_drewN (Below.refl _ _) _) _⟩
 clear hBo hmk
 go_loopw [13] (fun s13 wr => ∃ i : Nat, s13 = .int .i64 (i : Int) ∧ Aside0 (i ≤ n) ∧ Aside0 (wr.heap[Bo]? = some (.cells (nums .i64 (upTo n i)).toArray 3 (0, 0))) ∧ Aside0 (Below w.heap.size w wr))
  (fun s13 _ => n - (intOf s13).toNat)
 case atStart => exact ⟨0, rfl, ⟨Nat.zero_le _⟩, HH0, HB0⟩
 case round =>
  clear HH0 HB0
  obtain ⟨i, rfl, HI, HH, HB⟩ := hrel
  by_cases hi : i < n
  ·have t1 : decide ((i : Int) < (n : Int)) = true := decide_eq_true (by omega)
   have t2 : decide (i < n) = true := decide_eq_true hi
   have hx := (blk_cell HH.out i).trans (nums_get _ i (by rw [upTo_len]; exact hi))
   have hfz := blk_frozen HH.out i
   go_wp2_with fail
   go_roundw
   case rel => exact ⟨i + 1, (by first | rfl | exact congrArg _ (wS (by omega))), ⟨by omega⟩, ⟨by rw [← upTo_succ n i hi, ← nums_set]; exact blk_set HH.out _ _⟩, ⟨below_grown HB.out (grown_set (grown_refl _ _) i _) (by have := HBO.out; omega)⟩⟩
   case measure => (try rw [wS (by omega)]); simp [intOf]; omega
  have t1 : decide ((i : Int) < (n : Int)) = false := decide_eq_false (by omega)
  have t2 : decide (i < n) = false := decide_eq_false hi
  have hin : i = n := by have := HI.out; omega
  subst hin
  clear hi
  have HH1 : Aside0 (wr.heap[Bo]? = some (.cells (nums .i64 (ints (List.range i))).toArray 3 (0, 0))) := ⟨by rw [← upTo_full]; exact HH.out⟩
  go_wp2_with fail
  clear HH
  go_loopw [23] (fun s23 wr => ∃ (t : Nat) (out : List Nat), s23 = .int .i64 (t : Int) ∧ Aside0 (t ≤ i) ∧ Aside0 (Rounds (inc legs forks) i t out) ∧ Aside0 (wr.heap[Bo]? = some (.cells (nums .i64 (ints out)).toArray 3 (0, 0))) ∧ Aside0 (Below w.heap.size w wr))
   (fun s23 _ => i - (intOf s23).toNat)
  case atStart => exact ⟨0, _, rfl, ⟨Nat.zero_le _⟩, ⟨.zero⟩, HH1, HB⟩
  case round =>
   clear HH1 HB
   obtain ⟨t, out, rfl, HT, HRO, HH, HB⟩ := hrel
   by_cases ht : t < i
   rotate_left
   ·have t3 : decide ((t : Int) < (i : Int)) = false := decide_eq_false (by omega)
    have t4 : decide (t < i) = false := decide_eq_false ht
    have hti : t = i := by have := HT.out; omega
    subst hti
    clear ht
    go_wp2_with fail
    go_ret
    refine ⟨_, rfl, ?_, HB.out⟩
    have e := rounds_lbl H2.out HRO.out
    have hl : (ints out).length = t := by rw [e, ints_len]; simp
    rw [← e]
    exact R_of_block HH.out hl (by have := H8.out; unfold maxLen; omega) (by have := HBO.out; omega)
   have t3 : decide ((t : Int) < (i : Int)) = true := decide_eq_true (by omega)
   have t4 : decide (t < i) = true := decide_eq_true ht
   have HTI := Aside0.mk ht
   obtain ⟨wo, hwo⟩ : ∃ wo, wo = wr := ⟨wr, rfl⟩
   subst hwo
   go_wp2_with (first
    | (go_at_call 50; refine (stands_walk legs forks Bw Al cl Af cf (by have := HN.out; have := H8.out; omega) H3.out HWF.out wo (blk_below HBK.out HB.out) (Kd.C_below HL.out HB.out) (Kd.C_below HF.out HB.out)).mono ?_; rintro e w1 ⟨rfl, hgr1, hb1⟩; have HGR := Aside0.mk hgr1; have HB1 := Aside0.mk hb1; clear hgr1 hb1)
    | (at_range; refine wpList_range_own _ rfl _ 76 rfl 2 72 webKey Try.underlying76 _ wo.heap.size (inc legs forks).length _ rfl (groups_own HGR.out) ?_; intro w2 hrg2 hg2 hs2)
    | go_in)
   go_frame
   obtain ⟨I, hI⟩ : ∃ I, I = inc legs forks := ⟨_, rfl⟩
   rw [← hI] at hrg2
   have HII := Aside0.mk hI
   have HH2 : Aside0 (w2.heap[Bo]? = some (.cells (nums .i64 (ints (([] : List Int).foldl (relax I) out))).toArray 3 (0, 0))) := ⟨blk_grown (blk_below HH.out HB1.out) hg2 (by simp)⟩
   have HRG2 := Aside0.mk hrg2
   have HL2 : Aside0 (∀ e, Maps.has (GTo I I.length) (keyL e) = ((!(ends I e).isEmpty) && !([] : List Int).contains e)) := ⟨fun e => by
    have h := GTo_has I e I.length (Nat.le_refl _)
    rw [List.take_length] at h
    rw [h]; simp⟩
   have HG2 := Aside0.mk (grown_of_none hg2 (some Bo))
   have HBW := Aside0.mk (blk_lt HH.out)
   clear hI hrg2 hg2 hs2
   go_loopw [6] (fun _ wr => ∃ (left : Lit → Bool) (cnt : Nat) (L : List Int), Aside0 (wr.ranges Try.prog 2 (rowElem (H := Unit) w1 (wo.heap.size + 1) 3 .i64) wo.heap.size w1.heap.size I.length (GTo I I.length) left cnt) ∧ Aside0 (∀ e, left (keyL e) = ((!(ends I e).isEmpty) && !L.contains e)) ∧ Aside0 (∀ e ∈ L, ∃ u, (e, u) ∈ I) ∧ Aside0 (wr.heap[Bo]? = some (.cells (nums .i64 (ints (L.foldl (relax I) out))).toArray 3 (0, 0))) ∧ Aside0 (w1.grownBy wr (some Bo)))
    (fun _ wr => wr.rangeLeft wo.heap.size w1.heap.size)
   case atStart => exact ⟨_, _, [], by rw [HII.out]; rw [HII.out] at HRG2; exact HRG2, HL2, ⟨by simp⟩, HH2, HG2⟩
   case round =>
    clear HH2 HRG2 HL2 HG2
    obtain ⟨left, cnt, L, HRG, HLE, HLI, HHO, HG⟩ := hrel
    have h2 := H2.out
    rw [← HII.out] at h2
    have hro := HRO.out
    rw [← HII.out] at hro
    have hfit := (fold_keep h2 L out HLI.out (rounds_fits h2 hro)).1
    have HFIT := Aside0.mk hfit
    clear hro
    go_wp2_with (first
     | (at_next; refine wpList_next_ranges (α := Int) (β := Value) _ rfl _ rfl 2 webKey (rowElem (H := Unit) w1 (wo.heap.size + 1) 3 .i64) (Value.int .i64) id (fun key kl h => inv_key h) (fun v y _ => ⟨v, rfl⟩) wo.heap.size w1.heap.size I.length (GTo I I.length) left cnt rfl HRG.out ?_ ?_)
     | go_in)
    ·intro hc0 hl0
     have hround : Round I out (L.foldl (relax I) out) := by
      refine ⟨L, fun e => ⟨HLI.out e, fun ⟨u, hu⟩ => ?_⟩, rfl⟩
      have h := HLE.out e
      rw [hl0] at h
      have hne : ends I e ≠ [] := fun h0 => by have := mem_ends.2 hu; rw [h0] at this; exact absurd this (by simp)
      cases hc : L.contains e with
      | true => exact List.contains_iff_mem.1 hc
      | false =>
       rw [hc] at h
       cases hh : ends I e with
       | nil => exact absurd hh hne
       | cons _ _ => rw [hh] at h; simp at h
     have HROU := Aside0.mk hround
     clear hround
     go_wp2
     go_roundw
     case rel => exact ⟨t + 1, L.foldl (relax I) out, (by first | rfl | exact congrArg _ (wS (by omega))), ⟨HTI.out⟩, ⟨.succ HRO.out (by rw [← HII.out]; exact HROU.out)⟩, HHO, ⟨below_grown (below_step HB.out HB1.out) HG.out (by have := HBO.out; omega)⟩⟩
     case measure => (try rw [wS (by omega)]); simp [intOf]; omega
    ·intro x c kl d ps w3 cnt3 hkey hlk hR hat hrg3 hlt3 hg3 hs3 hen
     obtain ⟨rfl, hown, hne⟩ := come_of hkey hR hat
     have hlx := HLE.out x
     rw [hlk] at hlx
     obtain ⟨u, hu⟩ := List.exists_mem_of_ne_nil _ hne
     obtain ⟨a, b, hab, ha, hb, hj, _⟩ := h2.at_ (mem_ends.1 hu)
     rw [hab] at hown
     obtain ⟨g, cap, rfl, hg1, hg2, hc0, hc1⟩ := own_two hown
     obtain ⟨O, hO⟩ : ∃ O, O = L.foldl (relax I) out := ⟨_, rfl⟩
     have hho := HHO.out
     have hf := HFIT.out
     rw [← hO] at hho hf
     have hol := hf.len
     have hoi : (ints O).length = O.length := ints_len O
     have HOE := Aside0.mk hO
     have hBog : Bo ≠ g := by have := HBW.out; omega
     have hgr : g ≠ w1.heap.size := by omega
     have hBor : Bo ≠ w1.heap.size := by have := HBW.out; have := HB1.out.size; omega
     have hBom : Bo ≠ wo.heap.size := by have := HBW.out; omega
     have hk0 := hg3.cell (HG.out.cell hc0 (by simp; exact Ne.symm hBog)) (by simp; exact hgr)
     have hk1 := hg3.cell (HG.out.cell hc1 (by simp; exact Ne.symm hBog)) (by simp; exact hgr)
     have hh3 := blk_grown hho hg3 (by simp; exact hBor)
     have hxa := (blk_cell hh3 a).trans (nums_get _ a (by omega))
     have hxb := (blk_cell hh3 b).trans (nums_get _ b (by omega))
     rw [ints_getD O a (by omega)] at hxa
     rw [ints_getD O b (by omega)] at hxb
     obtain ⟨lo, hlo⟩ : ∃ lo, lo = low2 O a b := ⟨_, rfl⟩
     obtain ⟨va, hva⟩ : ∃ va, va = O.getD a 0 := ⟨_, rfl⟩
     obtain ⟨vb, hvb⟩ : ∃ vb, vb = O.getD b 0 := ⟨_, rfl⟩
     rw [← hva] at hxa
     rw [← hvb] at hxb
     have hmn : (if vb < va then (vb : Int) else (va : Int)) = (lo : Int) := by
      rw [hlo, low2]
      show _ = ((min (O.getD a 0) (O.getD b 0) : Nat) : Int)
      rw [← hva, ← hvb]
      split <;> omega
     have HLO := Aside0.mk hlo
     have HH3 := Aside0.mk hh3
     have HFO := Aside0.mk hf
     have HOI := Aside0.mk hoi
     have HRG3 := Aside0.mk hrg3
     have HG3 := Aside0.mk (HG.out.andThen hg3 (fun j hj => by cases hj; exact Or.inl (Nat.le_refl _)))
     have HAB := Aside0.mk hab
     have HJ := Aside0.mk hj
     have HLK := Aside0.mk hlk
     have HLT3 := Aside0.mk hlt3
     have HBOM := Aside0.mk hBom
     have HBOR := Aside0.mk hBor
     have HBOG := Aside0.mk hBog
     have HU := Aside0.mk (mem_ends.1 hu)
     clear hva hvb hO hlo hlx hlk hkey hR hat hne hu hown hg3 hs3 hf hol hoi hho hh3 hrg3 hlt3 hfit h2 hc0 hc1 hBog hgr hBor hBom hab hj hg1 hg2
     go_wp2_with fail
     go_quiet (fail)
     (try simp only [hmn])
     clear hmn
     obtain ⟨w4, hw4⟩ : ∃ w4, w4 = w3.drewN nq := ⟨_, rfl⟩
     rw [← hw4]
     have HH4 : Aside0 (w4.heap[Bo]? = some (.cells (nums .i64 (ints O)).toArray 3 (0, 0))) := ⟨by rw [hw4]; exact HH3.out⟩
     have HW4 := Aside0.mk hw4
     have hk0 : w4.cell? ⟨g, 0, none⟩ = some (.int .i64 (a : Int)) := by rw [hw4]; exact hk0
     have hk1 : w4.cell? ⟨g, 1, none⟩ = some (.int .i64 (b : Int)) := by rw [hw4]; exact hk1
     have hxa : w4.cell? ⟨Bo, a, none⟩ = some (.int .i64 (va : Int)) := by rw [hw4]; exact hxa
     have hfa := blk_frozen HH4.out a
     have hb4 := blk_set HH4.out a (.int .i64 (lo : Int))
     rw [nums_set] at hb4
     have hxb4 := (blk_cell hb4 b).trans (nums_get _ b (by rw [List.length_set, HOI.out, HFO.out.len]; exact hb))
     have hfb := blk_frozen hb4 b
     have HB4 := Aside0.mk hb4
     clear hw4 hb4
     go_wp2_with fail
     go_region
     all_goals
      have HG5 : Aside0 (w3.grownBy ((w4.setCell ⟨Bo, a, none⟩ (.int .i64 (lo : Int))).setCell ⟨Bo, b, none⟩ (.int .i64 (lo : Int))).drew (some Bo)) := ⟨grown_drew (grown_set (grown_set (by rw [HW4.out]; exact grown_drewN (grown_refl _ _) _) _ _) _ _)⟩
      have HR5 := Aside0.mk (HRG3.out.kept HG5.out (by simp; exact Ne.symm HBOM.out) (by simp; exact Ne.symm HBOR.out))
      have HH5 : Aside0 (((w4.setCell ⟨Bo, a, none⟩ (.int .i64 (lo : Int))).setCell ⟨Bo, b, none⟩ (.int .i64 (lo : Int))).drew.heap[Bo]? = some (.cells (nums .i64 (ints ((L ++ [x]).foldl (relax I) out))).toArray 3 (0, 0))) := ⟨by
       have e : (L ++ [x]).foldl (relax I) out = relax2 O a b := by
        rw [List.foldl_append, ← HOE.out]
        show relax I O x = _
        unfold relax; rw [HAB.out]; rfl
       have h := blk_drew (blk_set HB4.out b (.int .i64 (lo : Int)))
       rw [nums_set, ints_put, ints_put, HLO.out] at h
       rw [e, HLO.out]
       exact h⟩
      go_wp2_with fail
      go_roundw
      case rel =>
       refine ⟨_, cnt3, L ++ [x], HR5, ⟨fun e => ?_⟩, ⟨fun e he => ?_⟩, HH5, ⟨grown_trans HG3.out HG5.out⟩⟩
       ·show (left (keyL e) && !(keyL e).sameKey (keyL x)) = _
        rw [HLE.out e, same_keyL]
        exact left_step _ _ _ _
       ·rcases List.mem_append.1 he with q | q
        ·exact HLI.out e q
        ·rw [List.mem_singleton] at q; rw [q]; exact ⟨_, HU.out⟩
      case measure => rw [HR5.out.left_eq, HRG.out.left_eq]; exact HLT3.out
end
section
open Go.RowKit Go.Proofs.YtmeggliapebkgaaW.PrintWords Go.Proofs.YtmeggliapebkgaaW.PrintLast Go.Proofs.YtmeggliapebkgaaW.PrintMore
attribute [local go_sem] max2_int min2_int max_two min_two max_three min_three max_four min_four   
set_option linter.unusedVariables false
set_option linter.unusedSimpArgs false
open Go.Proofs.Ytmeggliapebkgaa.Mem Go.Proofs.Ytmeggliapebkgaa.Web Go.Proofs.Ytmeggliapebkgaa.Pure Go.Maps
def firstT : List Bool → Nat → Int
 | [], _ => -1
 | b :: l, i => if b = true then (i : Int) else firstT l (i + 1)
theorem firstT_ge : ∀ (l : List Bool) (i : Nat), decide (0 ≤ firstT l i) = l.any id
 | [], _ => rfl
 | b :: l, i => by
  rw [firstT, List.any_cons]
  cases b with
  | true => rw [if_pos rfl]; simp
  | false => rw [if_neg (by simp)]; simpa using firstT_ge l (i + 1)
theorem firstT_skip {l : List Bool} : ∀ x, x ≤ l.length → (l.take x).any id = false → firstT l 0 = firstT (l.drop x) x
 | 0, _, _ => rfl
 | x + 1, hx, h => by
  rw [List.take_succ_eq_append_getElem (by omega), List.any_append] at h
  simp only [Bool.or_eq_false_iff] at h
  rw [firstT_skip x (by omega) h.1, List.drop_eq_getElem_cons (by omega), firstT]
  have h2 := h.2
  simp only [List.any_cons, List.any_nil, Bool.or_false, id] at h2
  rw [if_neg (by rw [h2]; simp)]
set_option maxHeartbeats 2000000 in
set_option maxRecDepth 100000 in
theorem web_1 (A : Option Addr) (n c : Nat) (w : World) : Calls Try.prog 103 #[.slice A n c] w fun e w' => e = .returned (.bool (n != 3)) ∧ w' = w := by
 cases h : (n != 3) with
 | true =>
  have h3 : n ≠ 3 := by simpa using h
  have t1 : ((n : Int) == 3) = false := by simp; omega
  go_enter Try.func103, Try.ntmps103
  go_wp2
  go_ret
  exact ⟨by first | rfl | (simp; omega), rfl⟩
 | false =>
  have t1 : n = 3 := by simpa using h
  subst t1
  go_enter Try.func103, Try.ntmps103
  go_wp2
  go_ret
  exact ⟨by first | rfl | simp, rfl⟩
set_option maxHeartbeats 2000000 in
set_option maxRecDepth 100000 in
theorem web_IndexFunc (forks : List (List Int)) (hl : forks.length ≤ 1000) (A : Option Addr) (c : Nat) (w : World) (hr : Kd.C (Kd.slice 2 (Kd.int .i64)) w A forks.length forks) :
  Calls Try.prog 149 #[.slice A forks.length c, .func (.func 103) #[] #[]] w fun e w' => e = .returned (.int .i64 (firstT (forks.map fun f => f.length != 3) 0)) ∧ ∃ nd, w' = w.drewN nd := by
 have HR := Aside0.mk hr
 obtain ⟨n, hn⟩ : ∃ n, n = forks.length := ⟨_, rfl⟩
 rw [← hn]
 have HN := Aside0.mk hn
 have hr : Kd.C (Kd.slice 2 (Kd.int .i64)) w A n forks := by rw [hn]; exact hr
 have HRN := Aside0.mk hr
 obtain ⟨bs, hbs⟩ : ∃ bs, bs = forks.map fun f => f.length != 3 := ⟨_, rfl⟩
 have HBS := Aside0.mk hbs
 have hbl : bs.length = n := by rw [hbs, hn]; simp
 have HBL := Aside0.mk hbl
 rw [← hbs]
 have hn1 : n ≤ 1000 := by omega
 clear hr hbs hbl hn
 go_enter Try.func149, Try.ntmps149
 go_wp2
 go_loopw [8] (fun i wr => ∃ x : Nat, i = .int .i64 (x : Int) ∧ Aside0 (x ≤ n) ∧ Aside0 ((bs.take x).any id = false) ∧ ∃ nd, wr = w.drewN nd)
  (fun i _ => n - (intOf i).toNat)
 case atStart => exact ⟨0, rfl, ⟨Nat.zero_le _⟩, ⟨rfl⟩, 0, rfl⟩
 case round =>
  obtain ⟨x, rfl, HX, HA, nd, rfl⟩ := hrel
  by_cases hlt : x < n
  rotate_left
  ·have t1 : decide ((x : Int) < (n : Int)) = false := decide_eq_false (by omega)
   have t2 : decide (x < n) = false := decide_eq_false hlt
   have HXE := Aside0.mk (show x = n from by have := HX.out; omega)
   clear hlt
   go_wp2
   go_ret
   refine ⟨?_, _, rfl⟩
   rw [firstT_skip x (by rw [HBL.out]; exact HX.out) HA.out, List.drop_of_length_le (by rw [HBL.out, HXE.out]; exact Nat.le_refl _)]
   rfl
  have t1 : decide ((x : Int) < (n : Int)) = true := decide_eq_true (by omega)
  have t2 : decide (x < n) = true := decide_eq_true hlt
  obtain ⟨ad, Aa, ca, ead, hrow, hca, _⟩ := row_of_C HRN.out x hlt
  subst ead
  obtain ⟨ln, hln⟩ : ∃ ln, ln = (forks.getD x []).length := ⟨_, rfl⟩
  rw [← hln] at hrow
  have hb : bs.getD x false = (ln != 3) := by
   rw [HBS.out, List.getD_eq_getElem?_getD, List.getElem?_map, List.getElem?_eq_getElem (by rw [← HN.out]; exact hlt), hln, List.getD_eq_getElem?_getD, List.getElem?_eq_getElem (by rw [← HN.out]; exact hlt)]; rfl
  have HD := Aside0.mk (show bs.drop x = (ln != 3) :: bs.drop (x + 1) from by
   rw [List.drop_eq_getElem_cons (by rw [HBL.out]; exact hlt), ← hb, List.getD_eq_getElem?_getD, List.getElem?_eq_getElem (by rw [HBL.out]; exact hlt)]; rfl)
  have HT := Aside0.mk (show bs.take (x + 1) = bs.take x ++ [ln != 3] from by
   rw [List.take_succ_eq_append_getElem (by rw [HBL.out]; exact hlt), ← hb, List.getD_eq_getElem?_getD, List.getElem?_eq_getElem (by rw [HBL.out]; exact hlt)]; rfl)
  have HLT := Aside0.mk hlt
  clear hln hb
  have hc := fun W => web_1 Aa ln ca W
  cases hv : (ln != 3) with
  | true =>
   have HV := Aside0.mk hv
   rw [hv] at hc
   have HCC := Aside0.mk hc
   clear hv hc
   go_wp2_with (first | (go_at_call 103; refine (HCC.out _).mono ?_; rintro e w2 ⟨rfl, rfl⟩))
   go_ret
   refine ⟨?_, _, rfl⟩
   rw [firstT_skip x (by rw [HBL.out]; exact HX.out) HA.out, HD.out, firstT, HV.out, if_pos rfl]
   rfl
  | false =>
   have HV := Aside0.mk hv
   rw [hv] at hc
   have HCC := Aside0.mk hc
   clear hv hc
   go_wp2_with (first | (go_at_call 103; refine (HCC.out _).mono ?_; rintro e w2 ⟨rfl, rfl⟩))
   go_roundw
   case rel => exact ⟨x + 1, (by first | rfl | exact congrArg _ (wS (by omega))), ⟨HLT.out⟩, ⟨by rw [HT.out, List.any_append, HA.out, HV.out]; rfl⟩, _, rfl⟩
   case measure => (try rw [wS (by omega)]); simp [intOf]; omega
set_option maxHeartbeats 2000000 in
set_option maxRecDepth 100000 in
theorem web_ContainsFunc (forks : List (List Int)) (hl : forks.length ≤ 1000) (A : Option Addr) (c : Nat) (w : World) (hr : Kd.C (Kd.slice 2 (Kd.int .i64)) w A forks.length forks) :
  Calls Try.prog 102 #[.slice A forks.length c, .func (.func 103) #[] #[]] w fun e w' => e = .returned (.bool ((forks.map fun f => f.length != 3).any id)) ∧ ∃ nd, w' = w.drewN nd := by
 have HI := Aside0.mk (firstT_ge (forks.map fun f => f.length != 3) 0)
 have HR := Aside0.mk hr
 have HL := Aside0.mk hl
 clear hr hl
 go_enter Try.func102, Try.ntmps102
 go_wp2_with (first | (go_at_call 149; refine (web_IndexFunc forks HL.out A c _ HR.out).mono ?_; rintro e w1 ⟨rfl, ⟨nd, rfl⟩⟩))
 go_ret
 exact ⟨by rw [← HI.out]; rfl, _, rfl⟩
set_option maxHeartbeats 2000000 in
set_option maxRecDepth 100000 in
theorem web_2 (x nl : Nat) (Bw : Nat) (v : Value) (Al : Option Addr) (cl : Nat) (w : World) (h : w.cell? ⟨Bw, 0, none⟩ = some (.slice Al nl cl)) : Calls Try.prog 106 #[.int .i64 (x : Int), .pointer (some ⟨Bw, 0, none⟩)] w fun e w' => e = .returned (.bool (decide (nl ≤ x))) ∧ w' = w := by
 have t1 : decide ((nl : Int) ≤ (x : Int)) = decide (nl ≤ x) := by rw [decide_eq_decide]; omega
 go_enter Try.func106, Try.ntmps106
 go_wp2
 go_ret
 exact ⟨by first | rfl | simp [t1], rfl⟩
set_option maxHeartbeats 2000000 in
set_option maxRecDepth 100000 in
theorem web_IndexFunc2 (l : List Nat) (hl : l.length ≤ 1000) (A : Option Addr) (c nl Bw : Nat) (Al : Option Addr) (cl : Nat) (w : World) (hr : Kd.C (Kd.int .i64) w A (ints l).length (ints l)) (h1 : w.cell? ⟨Bw, 0, none⟩ = some (.slice Al nl cl)) :
  Calls Try.prog 150 #[.slice A (ints l).length c, .func (.func 106) #[] #[.pointer (some ⟨Bw, 0, none⟩)]] w fun e w' => e = .returned (.int .i64 (firstT (l.map fun x => decide (nl ≤ x)) 0)) ∧ ∃ nd, w' = w.drewN nd := by
 obtain ⟨n, hn⟩ : ∃ n, n = l.length := ⟨_, rfl⟩
 rw [ints_len, ← hn] at hr
 rw [ints_len, ← hn]
 have HRN := Aside0.mk hr
 have HN := Aside0.mk hn
 have H1 := Aside0.mk h1
 obtain ⟨bs, hbs⟩ : ∃ bs, bs = l.map fun x => decide (nl ≤ x) := ⟨_, rfl⟩
 have HBS := Aside0.mk hbs
 have hbl : bs.length = n := by rw [hbs, hn]; simp
 have HBL := Aside0.mk hbl
 rw [← hbs]
 have hn1 : n ≤ 1000 := by omega
 clear hr hbs hbl hn h1
 go_enter Try.func150, Try.ntmps150
 go_wp2
 go_loopw [8] (fun i wr => ∃ x : Nat, i = .int .i64 (x : Int) ∧ Aside0 (x ≤ n) ∧ Aside0 ((bs.take x).any id = false) ∧ ∃ nd, wr = w.drewN nd)
  (fun i _ => n - (intOf i).toNat)
 case atStart => exact ⟨0, rfl, ⟨Nat.zero_le _⟩, ⟨rfl⟩, 0, rfl⟩
 case round =>
  obtain ⟨x, rfl, HX, HA, nd, rfl⟩ := hrel
  by_cases hlt : x < n
  rotate_left
  ·have t1 : decide ((x : Int) < (n : Int)) = false := decide_eq_false (by omega)
   have t2 : decide (x < n) = false := decide_eq_false hlt
   have HXE := Aside0.mk (show x = n from by have := HX.out; omega)
   clear hlt
   go_wp2
   go_ret
   refine ⟨?_, _, rfl⟩
   rw [firstT_skip x (by rw [HBL.out]; exact HX.out) HA.out, List.drop_of_length_le (by rw [HBL.out, HXE.out]; exact Nat.le_refl _)]
   rfl
  have t1 : decide ((x : Int) < (n : Int)) = true := decide_eq_true (by omega)
  have t2 : decide (x < n) = true := decide_eq_true hlt
  obtain ⟨ad, ead, hcell⟩ := cell_of_C HRN.out x hlt
  subst ead
  rw [ints_getD l x (by rw [← HN.out]; exact hlt)] at hcell
  obtain ⟨y, hy⟩ : ∃ y, y = l.getD x 0 := ⟨_, rfl⟩
  rw [← hy] at hcell
  have hb : bs.getD x false = decide (nl ≤ y) := by
   rw [HBS.out, List.getD_eq_getElem?_getD, List.getElem?_map, List.getElem?_eq_getElem (by rw [← HN.out]; exact hlt), hy, List.getD_eq_getElem?_getD, List.getElem?_eq_getElem (by rw [← HN.out]; exact hlt)]; rfl
  have HD := Aside0.mk (show bs.drop x = decide (nl ≤ y) :: bs.drop (x + 1) from by
   rw [List.drop_eq_getElem_cons (by rw [HBL.out]; exact hlt), ← hb, List.getD_eq_getElem?_getD, List.getElem?_eq_getElem (by rw [HBL.out]; exact hlt)]; rfl)
  have HT := Aside0.mk (show bs.take (x + 1) = bs.take x ++ [decide (nl ≤ y)] from by
   rw [List.take_succ_eq_append_getElem (by rw [HBL.out]; exact hlt), ← hb, List.getD_eq_getElem?_getD, List.getElem?_eq_getElem (by rw [HBL.out]; exact hlt)]; rfl)
  have HLT := Aside0.mk hlt
  clear hy hb
  have hc := fun nd => web_2 y nl Bw undef Al cl (w.drewN nd) H1.out
  cases hv : decide (nl ≤ y) with
  | true =>
   have HV := Aside0.mk hv
   rw [hv] at hc
   have HCC := Aside0.mk hc
   clear hv hc
   go_wp2_with (first | (go_at_call 106; refine (HCC.out _).mono ?_; rintro e w2 ⟨rfl, rfl⟩))
   go_ret
   refine ⟨?_, _, rfl⟩
   rw [firstT_skip x (by rw [HBL.out]; exact HX.out) HA.out, HD.out, firstT, HV.out, if_pos rfl]
   rfl
  | false =>
   have HV := Aside0.mk hv
   rw [hv] at hc
   have HCC := Aside0.mk hc
   clear hv hc
   go_wp2_with (first | (go_at_call 106; refine (HCC.out _).mono ?_; rintro e w2 ⟨rfl, rfl⟩))
   go_roundw
   case rel => exact ⟨x + 1, (by first | rfl | exact congrArg _ (wS (by omega))), ⟨HLT.out⟩, ⟨by rw [HT.out, List.any_append, HA.out, HV.out]; rfl⟩, _, rfl⟩
   case measure => (try rw [wS (by omega)]); simp [intOf]; omega
set_option maxHeartbeats 2000000 in
set_option maxRecDepth 100000 in
theorem web_ContainsFunc2 (l : List Nat) (hl : l.length ≤ 1000) (A : Option Addr) (c nl Bw : Nat) (Al : Option Addr) (cl : Nat) (w : World) (hr : Kd.C (Kd.int .i64) w A (ints l).length (ints l)) (h1 : w.cell? ⟨Bw, 0, none⟩ = some (.slice Al nl cl)) :
  Calls Try.prog 104 #[.slice A (ints l).length c, .func (.func 106) #[] #[.pointer (some ⟨Bw, 0, none⟩)]] w fun e w' => e = .returned (.bool ((l.map fun x => decide (nl ≤ x)).any id)) ∧ ∃ nd, w' = w.drewN nd := by
 have HI := Aside0.mk (firstT_ge (l.map fun x => decide (nl ≤ x)) 0)
 have HR := Aside0.mk hr
 have HL := Aside0.mk hl
 have H1 := Aside0.mk h1
 clear hr hl h1
 go_enter Try.func104, Try.ntmps104
 go_wp2_with (first | (go_at_call 150; refine (web_IndexFunc2 l HL.out A c nl Bw Al cl _ HR.out H1.out).mono ?_; rintro e w1 ⟨rfl, ⟨nd, rfl⟩⟩))
 go_ret
 exact ⟨by rw [← HI.out]; rfl, _, rfl⟩
def wfW (legs : List Int) (forks : List (List Int)) : Bool := (inc legs forks).all fun p => (Lit.int .i64 p.1).wf
def impl_IsWeb.f (l0_0 : List Int) (l0_1 : List (List Int)) : Option Bool := if l0_0.length ≤ 17592186044416 ∧ l0_1.length ≤ 17592186044416 ∧ wfW l0_0 l0_1 = true then some (isWebC l0_0 l0_1) else none
theorem any_len (forks : List (List Int)) : (forks.map fun f => f.length != 3).any id = !(forks.all fun f => f.length == 3) := by
 induction forks with
 | nil => rfl
 | cons f F ih =>
  rw [List.map_cons, List.any_cons, ih, List.all_cons]
  show ((f.length != 3) || _) = _
  cases h : (f.length == 3) <;> simp [h, bne]
theorem any_root (n nl : Nat) (r : Nat → Nat) : (((List.range n).map r).map fun x => decide (nl ≤ x)).any id = !((List.range n).all fun v => decide (r v < nl)) := by
 induction List.range n with
 | nil => rfl
 | cons f F ih =>
  rw [List.map_cons, List.map_cons, List.any_cons, ih, List.all_cons]
  show (decide (nl ≤ r f) || _) = _
  by_cases h : r f < nl
  rotate_left
  ·rw [decide_eq_false h, decide_eq_true (by omega)]; simp
  rw [decide_eq_true h, decide_eq_false (by omega)]; simp
set_option maxHeartbeats 4000000 in
set_option maxRecDepth 100000 in
theorem isWeb_walk (legs : List Int) (forks : List (List Int)) (Al : Option Addr) (cl : Nat) (Af : Option Addr) (cf : Nat) (h1 : legs.length ≤ 17592186044416) (h2 : forks.length ≤ 17592186044416) (hwf : ∀ p ∈ inc legs forks, (Lit.int .i64 p.1).wf = true) (w : World)
  (hl : Kd.C (Kd.int .i64) w Al legs.length legs) (hf : Kd.C (Kd.slice 2 (Kd.int .i64)) w Af forks.length forks) :
  Calls Try.prog 49 #[.agg #[.slice Al legs.length cl, .slice Af forks.length cf]] w fun e w' => e = .returned (.bool (isWebB legs forks)) ∧ Below w.heap.size w w' := by
 obtain ⟨N, hN⟩ : ∃ N, N = legs.length + forks.length := ⟨_, rfl⟩
 obtain ⟨I, hI⟩ : ∃ I, I = inc legs forks := ⟨_, rfl⟩
 obtain ⟨res, hres⟩ : ∃ res, res = isWebB legs forks := ⟨_, rfl⟩
 rw [← hres]
 have HRES := Aside0.mk hres
 unfold isWebB at hres
 have HBK := Aside0.mk (show (w.alloc (.cells #[.slice Al legs.length cl, .slice Af forks.length cf] 30)).heap[w.heap.size]? = some (.cells #[.slice Al legs.length cl, .slice Af forks.length cf] 30 (0, 0)) from new_at rfl)
 have HB1 := Aside0.mk (show Below w.heap.size w (w.alloc (.cells #[.slice Al legs.length cl, .slice Af forks.length cf] 30)) from below_alloc (Below.refl _ _) _)
 have c1 : (w.alloc (.cells #[.slice Al legs.length cl, .slice Af forks.length cf] 30)).cell? ⟨w.heap.size, 1, none⟩ = some (.slice Af forks.length cf) := (blk_cell HBK.out 1).trans rfl
 have HL := Aside0.mk hl
 have HF := Aside0.mk hf
 have HH1 := Aside0.mk h1
 have HH2 := Aside0.mk h2
 have HWF := Aside0.mk hwf
 have HN := Aside0.mk hN
 have HI := Aside0.mk hI
 by_cases h8 : 8 < N
 ·have t1 : decide ((8 : Int) < (N : Int)) = true := decide_eq_true (by omega)
  have t2 : decide (8 < N) = true := decide_eq_true h8
  have HE := Aside0.mk (show res = false from by rw [hres, decide_eq_false (by omega)]; rfl)
  clear hl hf h1 h2 hwf hN hI hres c1
  go_enter Try.func49, Try.ntmps49
  go_wp2_with (first
   | (go_at_call 101; refine (nodes_walk legs.length forks.length w.heap.size Al cl Af cf (by have := HH1.out; have := HH2.out; omega) _ HBK.out).mono ?_; rintro e w1 ⟨rfl, ⟨nd, rfl⟩⟩; rw [← HN.out]))
  go_ret
  exact ⟨by rw [HE.out]; rfl, pw_below_drewN HB1.out _⟩
 have t1 : decide ((8 : Int) < (N : Int)) = false := decide_eq_false (by omega)
 have t2 : decide (8 < N) = false := decide_eq_false h8
 have H8 := Aside0.mk (show N ≤ 8 from by omega)
 rw [decide_eq_true (show legs.length + forks.length ≤ 8 from by omega), Bool.true_and] at hres
 cases ha : (forks.all fun f => f.length == 3) with
 | false =>
  rw [ha, Bool.false_and, Bool.false_and] at hres
  have HA := Aside0.mk ha
  have HE := Aside0.mk hres
  clear hl hf h1 h2 hwf hN hI hres ha
  go_enter Try.func49, Try.ntmps49
  go_wp2_with (first
   | (go_at_call 101; refine (nodes_walk legs.length forks.length w.heap.size Al cl Af cf (by have := H8.out; have := HN.out; omega) _ HBK.out).mono ?_; rintro e w1 ⟨rfl, ⟨nd, rfl⟩⟩; rw [← HN.out])
   | (go_at_call 102; refine (web_ContainsFunc forks (by have := H8.out; have := HN.out; omega) Af cf _ (Kd.C_drewN (Kd.C_below HF.out HB1.out) _)).mono ?_; rw [any_len, HA.out]; rintro e w1 ⟨rfl, ⟨nd2, rfl⟩⟩))
  go_ret
  exact ⟨by rw [HE.out]; rfl, pw_below_drewN HB1.out _⟩
 | true =>
  rw [ha, Bool.true_and] at hres
  have HA := Aside0.mk ha
  have H3 := Aside0.mk (show ∀ f ∈ forks, f.length = 3 from fun f hf => eq_of_beq (List.all_eq_true.1 ha f hf))
  have HE := Aside0.mk hres
  clear hl hf h1 h2 hwf hN hI hres ha
  go_enter Try.func49, Try.ntmps49
  go_wp2_with (first
   | (go_at_call 101; refine (nodes_walk legs.length forks.length w.heap.size Al cl Af cf (by have := H8.out; have := HN.out; omega) _ HBK.out).mono ?_; rintro e w1 ⟨rfl, ⟨nd, rfl⟩⟩; rw [← HN.out])
   | (go_at_call 102; refine (web_ContainsFunc forks (by have := H8.out; have := HN.out; omega) Af cf _ (Kd.C_drewN (Kd.C_below HF.out HB1.out) _)).mono ?_; rw [any_len, HA.out]; rintro e w1 ⟨rfl, ⟨nd2, rfl⟩⟩)
   | (go_at_call 50; refine (stands_walk legs forks w.heap.size Al cl Af cf (by have := H8.out; have := HN.out; omega) H3.out HWF.out _ (blk_drewN HBK.out _) (Kd.C_drewN (Kd.C_below HL.out HB1.out) _) (Kd.C_drewN (Kd.C_below HF.out HB1.out) _)).mono ?_; rintro e w1 ⟨rfl, hgr1, hb1⟩; have hb2 := below_step (pw_below_drewN HB1.out _) hb1; generalize hM : (World.drewN _ _).heap.size = Bm at hgr1 ⊢; have HBM := Aside0.mk hM; have HGR := Aside0.mk hgr1; have HBB := Aside0.mk hb2; have hs1 := hb1.size; have HBS := Aside0.mk hb1; clear hgr1 hb1 hb2 hM hs1)
   | (at_range; refine wpList_range_own _ rfl _ 76 rfl 2 72 webKey Try.underlying76 _ _ (inc legs forks).length _ rfl (groups_own HGR.out) ?_; intro w2 hrg2 hg2 hs2)
   | go_in)
  go_frame
  rw [← HI.out] at hrg2
  have HRG2 := Aside0.mk hrg2
  have HG2 := Aside0.mk hg2
  have HL2 : Aside0 (∀ e, Maps.has (GTo I I.length) (keyL e) = ((!(ends I e).isEmpty) && !([] : List Int).contains e)) := ⟨fun e => by
   have h := GTo_has I e I.length (Nat.le_refl _)
   rw [List.take_length] at h
   rw [h]; simp⟩
  have HBK1 := Aside0.mk (blk_below (blk_drewN HBK.out _) HBS.out)
  have HLEN := Aside0.mk (show I.length ≤ 24 from by rw [HI.out, inc_len H3.out]; have := H8.out; have := HN.out; omega)
  clear hrg2 hg2 hs2
  go_loopw [3] (fun _ wr => ∃ (left : Lit → Bool) (cnt : Nat) (L : List Int), Aside0 (wr.ranges Try.prog 2 (rowElem (H := Unit) w1 (Bm + 1) 3 .i64) Bm w1.heap.size I.length (GTo I I.length) left cnt) ∧ Aside0 (∀ e, left (keyL e) = ((!(ends I e).isEmpty) && !L.contains e)) ∧ Aside0 (∀ e ∈ L, (0 ≤ e ∧ e ≤ 1000) ∧ (ends I e).length = 2) ∧ Aside0 (w1.grownBy wr none))
   (fun _ wr => wr.rangeLeft Bm w1.heap.size)
  case atStart => exact ⟨_, _, [], HRG2, HL2, ⟨by simp⟩, HG2⟩
  case round =>
   clear HRG2 HL2 HG2
   obtain ⟨left, cnt, L, HRG, HLE, HLI, HG⟩ := hrel
   go_wp2_with (first
    | (at_next; refine wpList_next_ranges (α := Int) (β := Value) _ rfl _ rfl 2 webKey (rowElem (H := Unit) w1 (Bm + 1) 3 .i64) (Value.int .i64) id (fun key kl h => inv_key h) (fun v y _ => ⟨v, rfl⟩) Bm w1.heap.size I.length (GTo I I.length) left cnt rfl HRG.out ?_ ?_)
    | go_in)
   ·intro hc0 hl0
    have htw : twiceB legs forks = true := by
     unfold twiceB
     rw [← HI.out, List.all_eq_true]
     intro p hp
     have h := HLE.out p.1
     rw [hl0] at h
     have hu := mem_ends.2 (show (p.1, p.2) ∈ I from hp)
     have hc : L.contains p.1 = true := by
      cases hc : L.contains p.1 with
      | true => rfl
      | false =>
       rw [hc] at h
       cases hh : ends I p.1 with
       | nil => rw [hh] at hu; exact absurd hu (by simp)
       | cons _ _ => rw [hh] at h; simp at h
     have := HLI.out p.1 (List.contains_iff_mem.1 hc)
     rw [decide_eq_true this.1, this.2]; rfl
    have hb := below_step HBB.out (grown_below HG.out)
    have hres : res = rootedB legs forks := by rw [HE.out, htw, Bool.true_and]
    have HRS := Aside0.mk hres
    have HTW := Aside0.mk (twice_two htw)
    have HBR := Aside0.mk hb
    have HBKR := Aside0.mk (blk_grown HBK1.out HG.out (by simp))
    have hmf : ∀ (fn : Fn) (first cap : Array Value) (w : World), (Instr.makeFunc fn first cap).run Try.prog w = .ok (.func fn first cap) w := fun _ _ _ _ => rfl
    clear htw hb hres hl0 hc0
    go_wp2_with (first
     | (go_at_call 105; refine (partsOf_walk legs forks N w.heap.size Al cl Af cf HN.out H8.out H3.out HWF.out (by rw [HN.out]; exact HTW.out) _ HBKR.out (Kd.C_below HL.out HBR.out) (Kd.C_below HF.out HBR.out)).mono ?_; rintro e w5 ⟨v5, rfl, ho5, hb5⟩; obtain ⟨A5, c5, rfl, hl5, hC5⟩ := Kd.R_reads ho5; have HC5 := Aside0.mk hC5; have HB5 := Aside0.mk hb5; have HBK5 := Aside0.mk (blk_below HBKR.out hb5); clear ho5 hb5 hl5 hC5)
     | (go_at_call 104; refine (web_ContainsFunc2 ((List.range N).map (lbl (inc legs forks))) (by have := H8.out; simp; omega) A5 c5 legs.length w.heap.size Al cl _ HC5.out ((blk_cell HBK5.out 0).trans rfl)).mono ?_; rw [any_root]; rintro e w6 ⟨rfl, ⟨nd6, rfl⟩⟩))
    go_ret
    refine ⟨?_, pw_below_drewN (below_step HBR.out HB5.out) _⟩
    rw [HRS.out, rootedB, ← HN.out]
    first | rfl | simp
   ·intro x c kl d ps w3 cnt3 hkey hlk hR hat hrg3 hlt3 hg3 hs3 hen
    obtain ⟨rfl, hown, hne⟩ := come_of hkey hR hat
    obtain ⟨u, hu⟩ := List.exists_mem_of_ne_nil _ hne
    obtain ⟨A4, c4, rfl⟩ := Kd.R_slice (R_of_own hown.1)
    rw [ints_len] at hen
    obtain ⟨ln, hln⟩ : ∃ ln, ln = (ends I x).length := ⟨_, rfl⟩
    rw [← hln] at hen
    simp only [ints_len, ← hln]
    have HLN := Aside0.mk hln
    have HU := Aside0.mk (mem_ends.1 hu)
    have HLK := Aside0.mk hlk
    have HLT3 := Aside0.mk hlt3
    have HRG3 := Aside0.mk hrg3
    have HG3 := Aside0.mk (HG.out.andThen hg3 (fun j hj => by cases hj; exact Or.inl (Nat.le_refl _)) : w1.grownBy w3 none)
    have HIN := Aside0.mk (in_f x 0 1000)
    clear hln hu hne hown hR hat hkey hlk hlt3 hrg3 hg3 hs3
    have hbad : ¬ ((0 ≤ x ∧ x ≤ 1000) ∧ ln = 2) → res = false := by
     intro hb
     rw [HE.out]
     have : twiceB legs forks = false := by
      cases htw : twiceB legs forks with
      | false => rfl
      | true =>
       exfalso
       unfold twiceB at htw
       rw [← HI.out] at htw
       have := List.all_eq_true.1 htw _ HU.out
       simp only [Bool.and_eq_true, decide_eq_true_eq, beq_iff_eq] at this
       exact hb ⟨this.1, by rw [HLN.out]; exact this.2⟩
     rw [this]; rfl
    have HBAD := Aside0.mk hbad
    clear hbad
    have hbel := Aside0.mk (below_step HBB.out (grown_below HG3.out))
    cases hin : decide (0 ≤ x ∧ x ≤ 1000) with
    | false =>
     have HE2 := Aside0.mk (HBAD.out (fun h => by rw [decide_eq_true h.1] at hin; exact absurd hin (by simp)))
     have HIN2 := Aside0.mk (HIN.out.trans (congrArg some hin))
     clear hin
     go_wp2_with (first
      | (go_at_call 66; refine (impl_in.calls x 0 1000 false _ HIN2.out).mono ?_; rintro e w4 ⟨rfl, ⟨⟨nd4, rfl⟩⟩⟩))
     go_ret
     exact ⟨by rw [HE2.out]; rfl, pw_below_drewN hbel.out _⟩
    | true =>
     have HIN2 := Aside0.mk (HIN.out.trans (congrArg some hin))
     have HIX := Aside0.mk (of_decide_eq_true hin)
     clear hin
     by_cases h2 : ln = 2
     rotate_left
     ·have t3 : ((ln : Int) == 2) = false := by simp; omega
      have HE2 := Aside0.mk (HBAD.out (fun h => h2 h.2))
      clear h2
      go_wp2_with (first
       | (go_at_call 66; refine (impl_in.calls x 0 1000 true _ HIN2.out).mono ?_; rintro e w4 ⟨rfl, ⟨⟨nd4, rfl⟩⟩⟩))
      go_ret
      exact ⟨by rw [HE2.out]; rfl, pw_below_drewN hbel.out _⟩
     have t3 : ((ln : Int) == 2) = true := by simp; omega
     have H22 := Aside0.mk h2
     clear h2
     go_wp2_with (first
      | (go_at_call 66; refine (impl_in.calls x 0 1000 true _ HIN2.out).mono ?_; rintro e w4 ⟨rfl, ⟨⟨nd4, rfl⟩⟩⟩))
     go_roundw
     case rel =>
      refine ⟨_, cnt3, L ++ [x], ⟨HRG3.out.kept (grown_drewN (grown_refl _ none) _) (by simp) (by simp)⟩, ⟨fun e => ?_⟩, ⟨fun e he => ?_⟩, ⟨grown_drewN HG3.out _⟩⟩
      ·show (left (keyL e) && !(keyL e).sameKey (keyL x)) = _
       rw [HLE.out e, same_keyL]
       exact left_step _ _ _ _
      ·rcases List.mem_append.1 he with q | q
       ·exact HLI.out e q
       ·rw [List.mem_singleton] at q; rw [q]; exact ⟨HIX.out, by rw [← HLN.out]; exact H22.out⟩
     case measure =>
      have h1 := HRG3.out.left_eq
      have h2 := HRG.out.left_eq
      have h3 := HLT3.out
      show World.rangeLeft w3 Bm w1.heap.size < _
      rw [h1, h2]; exact h3
theorem impl_IsWeb.calls (A0_0 : Option Addr) (c0_0 : Nat) (l0_0 : List Int) (A0_1 : Option Addr) (c0_1 : Nat) (l0_1 : List (List Int)) (r : Bool) (w : World) (hr0_0 : Kd.C (Kd.int .i64) w A0_0 l0_0.length l0_0) (hc0_0 : l0_0.length ≤ c0_0) (hr0_1 : Kd.C (Kd.slice 2 (Kd.int .i64)) w A0_1 l0_1.length l0_1) (hc0_1 : l0_1.length ≤ c0_1) (h : impl_IsWeb.f l0_0 l0_1 = some r) :
  Calls Try.prog 49 #[.agg #[.slice A0_0 l0_0.length c0_0, .slice A0_1 l0_1.length c0_1]] w fun e w' => e = .returned (.bool r) ∧ Below w.heap.size w w' := by
 unfold impl_IsWeb.f at h
 by_cases hk : l0_0.length ≤ 17592186044416 ∧ l0_1.length ≤ 17592186044416 ∧ wfW l0_0 l0_1 = true
 rotate_left
 ·rw [if_neg hk] at h; exact absurd h (by simp)
 rw [if_pos hk] at h
 obtain rfl := Option.some.inj h
 rw [isWebC_eq]
 exact isWeb_walk l0_0 l0_1 A0_0 c0_0 A0_1 c0_1 hk.1 hk.2.1 (fun p hp => List.all_eq_true.1 hk.2.2 p hp) w hr0_0 hr0_1
end
end Go.Proofs.Ytmeggliapebkgaa.F
end
section
namespace Go.Proofs.Ytmeggliapebkgaa.F
open Go.RowKit Go.Proofs.YtmeggliapebkgaaW.PrintWords Go.Proofs.YtmeggliapebkgaaW.PrintLast Go.Proofs.YtmeggliapebkgaaW.PrintMore
attribute [local go_sem] max2_int min2_int max_two min_two max_three min_three max_four min_four   
set_option linter.unusedVariables false
set_option linter.unusedSimpArgs false
def impl_around.f (k : Nat) (l0 : List Int) (a1 : Int) : Option (Int × Int) := (slices_Index_int64_int64.f k l0 a1).bind fun t511001 => (if 0 ≤ (Int.tmod (wrap64 (t511001 + 1)) 3) then (if (Int.tmod (wrap64 (t511001 + 1)) 3) < (l0.length : Int) then (if 0 ≤ (Int.tmod (wrap64 (t511001 + 2)) 3) then (if (Int.tmod (wrap64 (t511001 + 2)) 3) < (l0.length : Int) then (some (rd l0 (Int.tmod (wrap64 (t511001 + 1)) 3), rd l0 (Int.tmod (wrap64 (t511001 + 2)) 3))) else (none)) else (none)) else (none)) else (none))
theorem impl_around.mono : ∀ a0 a1 k, LeO (impl_around.f k a0 a1) (impl_around.f (k + 1) a0 a1) := by
  intro a0 a1 k
  unfold impl_around.f
  repeat' first
      | (with_reducible exact slices_Index_int64_int64.mono _ _ _)
      | (with_reducible exact LeO.refl _)
      | (with_reducible exact LeO.none _)
      | (with_reducible refine LeO.ite ?_ ?_)
      | (with_reducible refine LeO.bind ?_ (fun _ => ?_))
      | exact slices_Index_int64_int64.mono _ _ _
      | exact LeO.none _
      | refine LeO.ite ?_ ?_
      | refine LeO.bind ?_ (fun _ => ?_)
set_option maxHeartbeats 8000000 in
set_option maxRecDepth 100000 in
theorem impl_around.calls (k : Nat) (A0 : Option Addr) (c0 : Nat) (l0 : List Int) (a1 : Int) (r1 : Int) (r2 : Int) (w : World) (hr0 : Kd.C (Kd.int .i64) w A0 l0.length l0) (hc0 : l0.length ≤ c0) (h : impl_around.f k l0 a1 = some (r1, r2)) :
    Calls Try.prog 51 #[.slice A0 l0.length c0, .int .i64 a1] w fun e w' => e = .returned (.tuple #[.int .i64 r1, .int .i64 r2]) ∧ Drawn0 w w' := by
  have HR0 := Aside0.mk hr0
  have HC0 := Aside0.mk hc0
  clear hr0 hc0
  have H : ((slices_Index_int64_int64.f k l0 a1).bind fun t511001 => (if 0 ≤ (Int.tmod (wrap64 (t511001 + 1)) 3) then (if (Int.tmod (wrap64 (t511001 + 1)) 3) < (l0.length : Int) then (if 0 ≤ (Int.tmod (wrap64 (t511001 + 2)) 3) then (if (Int.tmod (wrap64 (t511001 + 2)) 3) < (l0.length : Int) then (some (rd l0 (Int.tmod (wrap64 (t511001 + 1)) 3), rd l0 (Int.tmod (wrap64 (t511001 + 2)) 3))) else (none)) else (none)) else (none)) else (none))) = some (r1, r2) := h
  clear h
  replace H := Option.bind_eq_some_iff.mp H
  obtain ⟨t511001, A30, H⟩ := H
  replace H : (if 0 ≤ (Int.tmod (wrap64 (t511001 + 1)) 3) then (if (Int.tmod (wrap64 (t511001 + 1)) 3) < (l0.length : Int) then (if 0 ≤ (Int.tmod (wrap64 (t511001 + 2)) 3) then (if (Int.tmod (wrap64 (t511001 + 2)) 3) < (l0.length : Int) then (some (rd l0 (Int.tmod (wrap64 (t511001 + 1)) 3), rd l0 (Int.tmod (wrap64 (t511001 + 2)) 3))) else (none)) else (none)) else (none)) else (none)) = some (r1, r2) := H
  have A3 := Aside0.mk A30
  clear A30
  obtain ⟨ji4, hji4⟩ : ∃ j_ : Int, (Int.tmod (wrap64 (t511001 + 1)) 3) = j_ := ⟨_, rfl⟩
  replace H : (if 0 ≤ (ji4) then (if (ji4) < (l0.length : Int) then (if 0 ≤ (Int.tmod (wrap64 (t511001 + 2)) 3) then (if (Int.tmod (wrap64 (t511001 + 2)) 3) < (l0.length : Int) then (some (rd l0 (ji4), rd l0 (Int.tmod (wrap64 (t511001 + 2)) 3))) else (none)) else (none)) else (none)) else (none)) = some (r1, r2) := by first | (rw [hji4] at H; exact H) | (simp only [hji4] at H ⊢; exact H)
  (try rw [hji4] at A3)
  by_cases c5 : 0 ≤ (ji4)
  rotate_left
  · rw [if_neg c5] at H
    exact absurd H (by simp)
  rw [if_pos c5] at H
  have c5b0 : decide (0 ≤ (ji4)) = true := decide_eq_true c5
  clear c5
  by_cases c6 : (ji4) < (l0.length : Int)
  rotate_left
  · rw [if_neg c6] at H
    exact absurd H (by simp)
  rw [if_pos c6] at H
  have c6b0 : decide ((ji4) < (l0.length : Int)) = true := decide_eq_true c6
  clear c6
  obtain ⟨ji7, hji7⟩ : ∃ j_ : Int, (Int.tmod (wrap64 (t511001 + 2)) 3) = j_ := ⟨_, rfl⟩
  replace H : (if 0 ≤ (ji7) then (if (ji7) < (l0.length : Int) then (some (rd l0 (ji4), rd l0 (ji7))) else (none)) else (none)) = some (r1, r2) := by first | (rw [hji7] at H; exact H) | (simp only [hji7] at H ⊢; exact H)
  (try rw [hji7] at A3)
  by_cases c8 : 0 ≤ (ji7)
  rotate_left
  · rw [if_neg c8] at H
    exact absurd H (by simp)
  rw [if_pos c8] at H
  have c8b0 : decide (0 ≤ (ji7)) = true := decide_eq_true c8
  clear c8
  by_cases c9 : (ji7) < (l0.length : Int)
  rotate_left
  · rw [if_neg c9] at H
    exact absurd H (by simp)
  rw [if_pos c9] at H
  have c9b0 : decide ((ji7) < (l0.length : Int)) = true := decide_eq_true c9
  clear c9
  simp only [Option.some.injEq, Prod.mk.injEq] at H
  obtain ⟨rfl, rfl⟩ := H
  go_enter Try.func51, Try.ntmps51
  go_wp2_with (first | (go_at_call 107; (with_reducible refine (slices_Index_int64_int64.calls k _ _ l0 a1 t511001 _ ?side1 ?side2 A3.out).mono ?_); (case side1 => repeat (first | exact HR0.out | (with_reducible refine Kd.C_alloc ?_ _) | (with_reducible refine Kd.C_drewN ?_ _) | (with_reducible refine Kd.C_drew ?_))); (case side2 => exact HC0.out); rintro e w' ⟨rfl, ⟨nd, rfl⟩⟩; (try first | exact ⟨rfl, _, World.drewN_drewN _ _ _⟩ | exact ⟨rfl, _, Eq.trans (World.drewN_drewN _ _ _) (congrArg (World.drewN _) (Nat.add_assoc _ _ _))⟩); have p511002 : 0 ≤ ((ji4) : Int) := of_decide_eq_true (by first | (with_reducible assumption) | assumption); have q511002 : (ji4) < (l0.length : Int) := of_decide_eq_true (by first | (with_reducible assumption) | assumption); obtain ⟨ad511002, e511002, hx511002_0⟩ := Kd.at_int HR0.out (ji4) p511002 q511002; cases e511002; replace p511002 := eq_true p511002; replace q511002 := eq_true q511002; have p511003 : 0 ≤ ((ji7) : Int) := of_decide_eq_true (by first | (with_reducible assumption) | assumption); have q511003 : (ji7) < (l0.length : Int) := of_decide_eq_true (by first | (with_reducible assumption) | assumption); obtain ⟨ad511003, e511003, hx511003_0⟩ := Kd.at_int HR0.out (ji7) p511003 q511003; obtain rfl : ad511002 = ad511003 := (by injection e511003); replace p511003 := eq_true p511003; replace q511003 := eq_true q511003))
  repeat (go_quiet (first | (go_at_call 107; (with_reducible refine (slices_Index_int64_int64.calls k _ _ l0 a1 t511001 _ ?side1 ?side2 A3.out).mono ?_); (case side1 => repeat (first | exact HR0.out | (with_reducible refine Kd.C_alloc ?_ _) | (with_reducible refine Kd.C_drewN ?_ _) | (with_reducible refine Kd.C_drew ?_))); (case side2 => exact HC0.out); rintro e w' ⟨rfl, ⟨nd, rfl⟩⟩; (try first | exact ⟨rfl, _, World.drewN_drewN _ _ _⟩ | exact ⟨rfl, _, Eq.trans (World.drewN_drewN _ _ _) (congrArg (World.drewN _) (Nat.add_assoc _ _ _))⟩); have p511002 : 0 ≤ ((ji4) : Int) := of_decide_eq_true (by first | (with_reducible assumption) | assumption); have q511002 : (ji4) < (l0.length : Int) := of_decide_eq_true (by first | (with_reducible assumption) | assumption); obtain ⟨ad511002, e511002, hx511002_0⟩ := Kd.at_int HR0.out (ji4) p511002 q511002; cases e511002; replace p511002 := eq_true p511002; replace q511002 := eq_true q511002; have p511003 : 0 ≤ ((ji7) : Int) := of_decide_eq_true (by first | (with_reducible assumption) | assumption); have q511003 : (ji7) < (l0.length : Int) := of_decide_eq_true (by first | (with_reducible assumption) | assumption); obtain ⟨ad511003, e511003, hx511003_0⟩ := Kd.at_int HR0.out (ji7) p511003 q511003; obtain rfl : ad511002 = ad511003 := (by injection e511003); replace p511003 := eq_true p511003; replace q511003 := eq_true q511003)); try go_wp2_with (first | (go_at_call 107; (with_reducible refine (slices_Index_int64_int64.calls k _ _ l0 a1 t511001 _ ?side1 ?side2 A3.out).mono ?_); (case side1 => repeat (first | exact HR0.out | (with_reducible refine Kd.C_alloc ?_ _) | (with_reducible refine Kd.C_drewN ?_ _) | (with_reducible refine Kd.C_drew ?_))); (case side2 => exact HC0.out); rintro e w' ⟨rfl, ⟨nd, rfl⟩⟩; (try first | exact ⟨rfl, _, World.drewN_drewN _ _ _⟩ | exact ⟨rfl, _, Eq.trans (World.drewN_drewN _ _ _) (congrArg (World.drewN _) (Nat.add_assoc _ _ _))⟩); have p511002 : 0 ≤ ((ji4) : Int) := of_decide_eq_true (by first | (with_reducible assumption) | assumption); have q511002 : (ji4) < (l0.length : Int) := of_decide_eq_true (by first | (with_reducible assumption) | assumption); obtain ⟨ad511002, e511002, hx511002_0⟩ := Kd.at_int HR0.out (ji4) p511002 q511002; cases e511002; replace p511002 := eq_true p511002; replace q511002 := eq_true q511002; have p511003 : 0 ≤ ((ji7) : Int) := of_decide_eq_true (by first | (with_reducible assumption) | assumption); have q511003 : (ji7) < (l0.length : Int) := of_decide_eq_true (by first | (with_reducible assumption) | assumption); obtain ⟨ad511003, e511003, hx511003_0⟩ := Kd.at_int HR0.out (ji7) p511003 q511003; obtain rfl : ad511002 = ad511003 := (by injection e511003); replace p511003 := eq_true p511003; replace q511003 := eq_true q511003)))
  go_ret2
  exact ⟨by first | rfl | (simp; done) | (simp only [← hji4, ← hji7] <;> (first | rfl | simp)) | (simp [*]; done), by repeat (first | exact Drawn0.refl _ | apply Drawn0.step)⟩
end Go.Proofs.Ytmeggliapebkgaa.F
end
section
namespace Go.Proofs.Ytmeggliapebkgaa.F
abbrev bqFx52_0 : Array Bool := #[false, false, false, false, false, false, false, false]
abbrev bqFx52_1 : Array Bool := #[true, false, false, false, false, false, false, false]
abbrev bqFx52_2 : Array Bool := #[true, false, true, false, false, false, false, false]
abbrev bqFx52_3 : Array Bool := #[true, true, true, false, false, false, false, false]
abbrev bqFx52_4 : Array Bool := #[true, true, true, true, false, false, false, false]
abbrev bqFx52_5 : Array Bool := #[true, true, true, true, true, false, false, false]
abbrev bqFx52_6 : Array Bool := #[true, true, true, true, true, true, false, false]
abbrev bqFx52_7 : Array Bool := #[true, true, true, true, true, true, true, false]
abbrev bqFx52_8 : Array Bool := #[true, true, true, true, true, true, true, true]
open Go.RowKit Go.Proofs.YtmeggliapebkgaaW.PrintWords Go.Proofs.YtmeggliapebkgaaW.PrintLast Go.Proofs.YtmeggliapebkgaaW.PrintMore
attribute [local go_sem] max2_int min2_int max_two min_two max_three min_three max_four min_four   
set_option linter.unusedVariables false
set_option linter.unusedSimpArgs false
def impl_cloneWeb.l0 : Nat → List (List Int) → Int → Int → List Int → List (List Int) → Option (List Int × (List (List Int)))
 | 0, _, _, _, _, _ => none
 | k + 1, x11, x12, x13, x521007000, x521007001 => if x13 < x12 then (if 0 ≤ x13 then (if x13 < (x11.length : Int) then ((slices_Clone_int64_int64.f (rd_L1 x11 x13)).bind fun t521008 => (if x521007001.length < 5864062014805 then (impl_cloneWeb.l0 k x11 x12 (wrap64 (x13 + 1)) x521007000 (x521007001 ++ [t521008])) else (none))) else (none)) else (none)) else (some (x521007000, x521007001))
def impl_cloneWeb.f (k : Nat) (l0_0 : List Int) (l0_1 : List (List Int)) : Option (List Int × (List (List Int))) := (slices_Clone_int64_int64.f l0_0).bind fun t521003 => (impl_cloneWeb.l0 k l0_1 (l0_1.length : Int) 0 t521003 ([] : List (List Int)))
theorem impl_cloneWeb.mono_l : ∀ k, (∀ y0 y1 y2 y3 y4, LeO (impl_cloneWeb.l0 k y0 y1 y2 y3 y4) (impl_cloneWeb.l0 (k + 1) y0 y1 y2 y3 y4))
 | 0 => fun _ _ _ _ _ r h => by simp [impl_cloneWeb.l0] at h
 | k + 1 => by
  have ih0 := impl_cloneWeb.mono_l k
  ·intro y0 y1 y2 y3 y4
   unfold impl_cloneWeb.l0
   repeat' first
   | (with_reducible exact ih0 _ _ _ _ _)
   | (with_reducible exact LeO.refl _)
   | (with_reducible exact LeO.none _)
   | (with_reducible refine LeO.ite ?_ ?_)
   | (with_reducible refine LeO.bind ?_ (fun _ => ?_))
   | exact ih0 _ _ _ _ _
   | exact LeO.none _
   | refine LeO.ite ?_ ?_
   | refine LeO.bind ?_ (fun _ => ?_)
theorem impl_cloneWeb.mono : ∀ a0 a1 k, LeO (impl_cloneWeb.f k a0 a1) (impl_cloneWeb.f (k + 1) a0 a1) := by
 intro a0 a1 k
 have ih0 := impl_cloneWeb.mono_l k
 unfold impl_cloneWeb.f
 repeat' first
   | (with_reducible exact ih0 _ _ _ _ _)
   | (with_reducible exact LeO.refl _)
   | (with_reducible exact LeO.none _)
   | (with_reducible refine LeO.ite ?_ ?_)
   | (with_reducible refine LeO.bind ?_ (fun _ => ?_))
   | exact ih0 _ _ _ _ _
   | exact LeO.none _
   | refine LeO.ite ?_ ?_
   | refine LeO.bind ?_ (fun _ => ?_)
def impl_cloneWeb.T5 : Bool × List (List Nat × List Nat) := (true, [([], []), ([0], [0]), ([], []), ([2], [2]), ([3], [3]), ([1, 4, 3], [1, 4]), ([0, 1, 2, 3, 4, 5], []), ([6, 5, 5, 0, 1, 2, 3, 4, 5], [5, 6])])
def impl_cloneWeb.B5 : List Nat := [0, 1, 0, 4, 12, 31, 63, 127]
theorem impl_cloneWeb.tab5 : rtab .any (opsOf Try.f52 5) = impl_cloneWeb.T5 := by kernel_rfl
theorem impl_cloneWeb.bits5 : waitsOk impl_cloneWeb.T5.2 impl_cloneWeb.B5 = true := by kernel_rfl
set_option maxHeartbeats 8000000 in
set_option maxRecDepth 100000 in
theorem impl_cloneWeb.calls (k : Nat) (A0_0 : Option Addr) (c0_0 : Nat) (l0_0 : List Int) (A0_1 : Option Addr) (c0_1 : Nat) (l0_1 : List (List Int)) (r1 : List Int) (r2 : List (List Int)) (w : World) (hr0_0 : Kd.C (Kd.int .i64) w A0_0 l0_0.length l0_0) (hc0_0 : l0_0.length ≤ c0_0) (hr0_1 : Kd.C (Kd.slice 2 (Kd.int .i64)) w A0_1 l0_1.length l0_1) (hc0_1 : l0_1.length ≤ c0_1) (h : impl_cloneWeb.f k l0_0 l0_1 = some (r1, r2)) :
  Calls Try.prog 52 #[.agg #[.slice A0_0 l0_0.length c0_0, .slice A0_1 l0_1.length c0_1]] w fun e w' => ∃ v0_ v1_ : Value, e = .returned (.agg #[v0_, v1_]) ∧ Kd.R (Kd.int .i64) 2 w' w.heap.size (fun _ => True) v0_ r1 ∧ Kd.S (Kd.slice 2 (Kd.int .i64)) 22 w' w.heap.size (fun k_ => some k_ ≠ (v0_ : Value).ownBlock) v1_ r2 ∧ Below w.heap.size w w' := by
 have hu30 := Try.underlying30
 have HR0_0 := Aside0.mk hr0_0
 have HC0_0 := Aside0.mk hc0_0
 clear hr0_0 hc0_0
 have HR0_1 := Aside0.mk hr0_1
 have HC0_1 := Aside0.mk hc0_1
 clear hr0_1 hc0_1
 have HB := Aside0.mk (Below.refl w.heap.size w)
 have H : ((slices_Clone_int64_int64.f l0_0).bind fun t521003 => (impl_cloneWeb.l0 k l0_1 (l0_1.length : Int) 0 t521003 ([] : List (List Int)))) = some (r1, r2) := h
 clear h
 replace H := Option.bind_eq_some_iff.mp H
 obtain ⟨t521003, A20, H⟩ := H
 replace H : (impl_cloneWeb.l0 k l0_1 (l0_1.length : Int) 0 t521003 ([] : List (List Int))) = some (r1, r2) := H
 have A2 := Aside0.mk A20
 clear A20
 have H' := Aside0.mk H
 clear H
 go_enter Try.func52, Try.ntmps52
 go_wp2_with (first | ((with_reducible refine gate_dst (N := 1) rfl ?_); refine box_event ?hg (N := 1) ?hd (cs := #[.slice A0_0 l0_0.length c0_0, .slice A0_1 l0_1.length c0_1]) (t := 30) ?hr ?_; (case hd => rfl); (case hg => rfl); (case hr => first | (go_simp; done) | (go_simp; rfl)); intro gb521001 hg w3 hbox hb; have n0_ := Aside0.mk (below_step (by repeat (first | (with_reducible first | exact HB.out | apply below_alloc | apply pw_below_drewN | apply below_drew1) | exact HB.out)) hb); have n1_ := Aside0.mk (hbox); have n2_ := Aside0.mk ((by rw [hg]; exact (below_size (by repeat (first | (with_reducible first | exact HB.out | apply below_alloc | apply pw_below_drewN | apply below_drew1) | exact HB.out))) : w.heap.size ≤ gb521001)); have n3_ := Aside0.mk ((by rw [hg]; exact (below_size (by repeat (first | (with_reducible first | exact HB.out | apply below_alloc | apply pw_below_drewN | apply below_drew1) | exact HB.out))) : w.heap.size ≤ gb521001)); clear HB; have HB := n0_; have BK521001 := n1_; have GW521001 := n2_; have GE521001 := n3_; clear n0_ n1_ n2_ n3_; clear hb hbox hg) | ((with_reducible refine gate_dst (N := 2) rfl ?_); refine box_event ?hg (N := 2) ?hd (cs := #[.slice none 0 0, .slice none 0 0]) (t := 30) ?hr ?_; (case hd => rfl); (case hg => rfl); (case hr => first | (go_simp; done) | (go_simp; rfl)); intro gb521002 hg w4 hbox hb; have n0_ := Aside0.mk (blk_below (g := gb521001) (o := .cells #[.slice A0_0 l0_0.length c0_0, .slice A0_1 l0_1.length c0_1] 30 (0, 0)) (by (with_reducible repeat (first | refine blk_drewN ?_ _ | refine blk_drew ?_ | refine blk_alloc ?_ _)); exact BK521001.out) hb); have n1_ := Aside0.mk (below_step (by repeat (first | (with_reducible first | exact HB.out | apply below_alloc | apply pw_below_drewN | apply below_drew1 | refine below_set ?_ GE521001.out) | exact HB.out)) hb); have n2_ := Aside0.mk (hbox); have n3_ := Aside0.mk ((by rw [hg]; exact (below_size (by repeat (first | (with_reducible first | exact HB.out | apply below_alloc | apply pw_below_drewN | apply below_drew1 | refine below_set ?_ GE521001.out) | exact HB.out))) : w.heap.size ≤ gb521002)); have n4_ := Aside0.mk ((by rw [hg]; exact (below_size (by repeat (first | (with_reducible first | exact HB.out | apply below_alloc | apply pw_below_drewN | apply below_drew1 | refine below_set ?_ GE521001.out) | exact HB.out))) : w.heap.size ≤ gb521002)); have n5_ := Aside0.mk ((by rw [hg]; exact Nat.ne_of_lt (blk_lt (g := gb521001) (o := .cells #[.slice A0_0 l0_0.length c0_0, .slice A0_1 l0_1.length c0_1] 30 (0, 0)) (by (with_reducible repeat (first | refine blk_drewN ?_ _ | refine blk_drew ?_ | refine blk_alloc ?_ _)); exact BK521001.out)) : gb521001 ≠ gb521002)); have n6_ := Aside0.mk ((by rw [hg]; exact Nat.ne_of_gt (blk_lt (g := gb521001) (o := .cells #[.slice A0_0 l0_0.length c0_0, .slice A0_1 l0_1.length c0_1] 30 (0, 0)) (by (with_reducible repeat (first | refine blk_drewN ?_ _ | refine blk_drew ?_ | refine blk_alloc ?_ _)); exact BK521001.out)) : gb521002 ≠ gb521001)); clear BK521001; clear HB; have BK521001 := n0_; have HB := n1_; have BK521002 := n2_; have GW521002 := n3_; have GE521002 := n4_; have NB521001_521002 := n5_; have NB521002_521001 := n6_; clear n0_ n1_ n2_ n3_ n4_ n5_ n6_; clear hb hbox hg; have hnb5 := NB521001_521002.out; have hnc5 := NB521002_521001.out; have hcz6_0 : w4.cell? ⟨gb521001, 0, none⟩ = some (.slice A0_0 l0_0.length c0_0) := (blk_cell BK521001.out 0).trans rfl; have hcz6_1 : w4.cell? ⟨gb521001, 1, none⟩ = some (.slice A0_1 l0_1.length c0_1) := (blk_cell BK521001.out 1).trans rfl; have hfz6_0 := blk_frozen BK521001.out 0; have hfz6_1 := blk_frozen BK521001.out 1) | ((with_reducible refine gate_callee (f := 108) rfl ?_); refine goesL_ (some 8) rfl rfl Try.func108 (by kernel_rfl) rfl #[.slice A0_0 l0_0.length c0_0] rfl (by (try simp only [List.map_toArray, List.map_cons, List.map_nil]); first | done | rfl | (simp only [List.length_drop, List.length_take]; rfl)) ?_; (with_reducible refine (slices_Clone_int64_int64.calls _ _ l0_0 t521003 _ ?side1 ?side2 A2.out).mono ?_); (case side1 => repeat (first | exact (Kd.C_below HR0_0.out HB.out) | (with_reducible refine Kd.C_alloc ?_ _) | (with_reducible refine Kd.C_drewN ?_ _) | (with_reducible refine Kd.C_drew ?_))); (case side2 => exact HC0_0.out); rintro e w7 ⟨v521004, rfl, ho0, hb⟩; refine ⟨_, rfl, ?_⟩; have n0_ := Aside0.mk (Kd.R_lower ho0 (below_size (by repeat (first | (with_reducible first | exact HB.out | apply below_alloc | apply pw_below_drewN | apply below_drew1 | refine below_set ?_ GE521001.out | refine below_set ?_ GE521002.out) | exact HB.out)))); have n1_ := Aside0.mk (blk_below (g := gb521001) (o := .cells #[.slice A0_0 l0_0.length c0_0, .slice A0_1 l0_1.length c0_1] 30 (0, 0)) (by (with_reducible repeat (first | refine blk_drewN ?_ _ | refine blk_drew ?_ | refine blk_alloc ?_ _)); exact BK521001.out) hb); have n2_ := Aside0.mk (blk_below (g := gb521002) (o := .cells #[.slice none 0 0, .slice none 0 0] 30 (0, 0)) (by (with_reducible repeat (first | refine blk_drewN ?_ _ | refine blk_drew ?_ | refine blk_alloc ?_ _)); exact BK521002.out) hb); have n3_ := Aside0.mk (below_step (by repeat (first | (with_reducible first | exact HB.out | apply below_alloc | apply pw_below_drewN | apply below_drew1 | refine below_set ?_ GE521001.out | refine below_set ?_ GE521002.out) | exact HB.out)) hb); clear BK521001; clear BK521002; clear HB; have HO521005 := n0_; have BK521001 := n1_; have BK521002 := n2_; have HB := n3_; clear n0_ n1_ n2_ n3_; (try clear hb); (try clear hb2); (try clear hk); (try clear hi); (try clear ho0); obtain ⟨Ao8, co8, eo8⟩ := Kd.R_slice HO521005.out; subst eo8) | ((with_reducible refine gate_dst (N := 3) rfl ?_); refine box_event ?hg (N := 3) ?hd (cs := #[.slice none 0 0, .slice none 0 0]) (t := 30) ?hr ?_; (case hd => rfl); (case hg => rfl); (case hr => first | (go_simp; done) | (go_simp; rfl)); intro gb521006 hg w9 hbox hb; have n0_ := Aside0.mk (Kd.R_below (by (with_reducible repeat (first | apply Kd.R_alloc | apply Kd.R_drewN | apply Kd.R_drew)); exact HO521005.out) hb); have n1_ := Aside0.mk (blk_below (g := gb521001) (o := .cells #[.slice A0_0 l0_0.length c0_0, .slice A0_1 l0_1.length c0_1] 30 (0, 0)) (by (with_reducible repeat (first | refine blk_drewN ?_ _ | refine blk_drew ?_ | refine blk_alloc ?_ _)); exact BK521001.out) hb); have n2_ := Aside0.mk (blk_below (g := gb521002) (o := .cells #[.slice none 0 0, .slice none 0 0] 30 (0, 0)) (by (with_reducible repeat (first | refine blk_drewN ?_ _ | refine blk_drew ?_ | refine blk_alloc ?_ _)); exact BK521002.out) hb); have n3_ := Aside0.mk (below_step (by repeat (first | (with_reducible first | exact HB.out | apply below_alloc | apply pw_below_drewN | apply below_drew1 | refine below_set ?_ GE521001.out | refine below_set ?_ GE521002.out) | exact HB.out)) hb); have n4_ := Aside0.mk (hbox); have n5_ := Aside0.mk ((by rw [hg]; exact (below_size (by repeat (first | (with_reducible first | exact HB.out | apply below_alloc | apply pw_below_drewN | apply below_drew1 | refine below_set ?_ GE521001.out | refine below_set ?_ GE521002.out) | exact HB.out))) : w.heap.size ≤ gb521006)); have n6_ := Aside0.mk ((by rw [hg]; exact (below_size (by repeat (first | (with_reducible first | exact HB.out | apply below_alloc | apply pw_below_drewN | apply below_drew1 | refine below_set ?_ GE521001.out | refine below_set ?_ GE521002.out) | exact HB.out))) : w.heap.size ≤ gb521006)); have n7_ := Aside0.mk ((by rw [hg]; exact Nat.ne_of_lt (blk_lt (g := gb521001) (o := .cells #[.slice A0_0 l0_0.length c0_0, .slice A0_1 l0_1.length c0_1] 30 (0, 0)) (by (with_reducible repeat (first | refine blk_drewN ?_ _ | refine blk_drew ?_ | refine blk_alloc ?_ _)); exact BK521001.out)) : gb521001 ≠ gb521006)); have n8_ := Aside0.mk ((by rw [hg]; exact Nat.ne_of_gt (blk_lt (g := gb521001) (o := .cells #[.slice A0_0 l0_0.length c0_0, .slice A0_1 l0_1.length c0_1] 30 (0, 0)) (by (with_reducible repeat (first | refine blk_drewN ?_ _ | refine blk_drew ?_ | refine blk_alloc ?_ _)); exact BK521001.out)) : gb521006 ≠ gb521001)); have n9_ := Aside0.mk ((by rw [hg]; exact Nat.ne_of_lt (blk_lt (g := gb521002) (o := .cells #[.slice none 0 0, .slice none 0 0] 30 (0, 0)) (by (with_reducible repeat (first | refine blk_drewN ?_ _ | refine blk_drew ?_ | refine blk_alloc ?_ _)); exact BK521002.out)) : gb521002 ≠ gb521006)); have n10_ := Aside0.mk ((by rw [hg]; exact Nat.ne_of_gt (blk_lt (g := gb521002) (o := .cells #[.slice none 0 0, .slice none 0 0] 30 (0, 0)) (by (with_reducible repeat (first | refine blk_drewN ?_ _ | refine blk_drew ?_ | refine blk_alloc ?_ _)); exact BK521002.out)) : gb521006 ≠ gb521002)); clear HO521005; clear BK521001; clear BK521002; clear HB; have HO521005 := n0_; have BK521001 := n1_; have BK521002 := n2_; have HB := n3_; have BK521006 := n4_; have GW521006 := n5_; have GE521006 := n6_; have NB521001_521006 := n7_; have NB521006_521001 := n8_; have NB521002_521006 := n9_; have NB521006_521002 := n10_; clear n0_ n1_ n2_ n3_ n4_ n5_ n6_ n7_ n8_ n9_ n10_; clear hb hbox hg; have hnb10 := NB521006_521001.out; have hnc10 := NB521001_521006.out; have hnb11 := NB521006_521002.out; have hnc11 := NB521002_521006.out; have hcz12_0 : w9.cell? ⟨gb521006, 0, none⟩ = some (.slice none 0 0) := (blk_cell BK521006.out 0).trans rfl; have hcz12_1 : w9.cell? ⟨gb521006, 1, none⟩ = some (.slice none 0 0) := (blk_cell BK521006.out 1).trans rfl; have hfz12_0 := blk_frozen BK521006.out 0; have hfz12_1 := blk_frozen BK521006.out 1; have hcz13_0 : w9.cell? ⟨gb521001, 0, none⟩ = some (.slice A0_0 l0_0.length c0_0) := (blk_cell BK521001.out 0).trans rfl; have hcz13_1 : w9.cell? ⟨gb521001, 1, none⟩ = some (.slice A0_1 l0_1.length c0_1) := (blk_cell BK521001.out 1).trans rfl; have hfz13_0 := blk_frozen BK521001.out 0; have hfz13_1 := blk_frozen BK521001.out 1))
 go_loopg [13] k (fun kq v13 w' => ∃ (x13_1 : Int) (x521007001_1 : List (List Int)) (u521007001 : Value), v13 = .int .i64 x13_1 ∧ Aside0 (impl_cloneWeb.l0 kq l0_1 (l0_1.length : Int) x13_1 t521003 x521007001_1 = some (r1, r2)) ∧ Aside0 (kq ≤ k) ∧ Aside0 (Kd.R (Kd.int .i64) 2 w' w.heap.size (fun _ => True) (.slice Ao8 t521003.length co8) t521003) ∧ Aside0 (Kd.S (Kd.slice 2 (Kd.int .i64)) 22 w' w.heap.size (fun k_ => some k_ ≠ ((.slice Ao8 t521003.length co8) : Value).ownBlock) u521007001 x521007001_1) ∧ Aside0 (w'.heap[gb521001]? = some (.cells #[(.slice A0_0 l0_0.length c0_0), (.slice A0_1 l0_1.length c0_1)] 30 (0, 0))) ∧ Aside0 (w'.heap[gb521002]? = some (.cells #[(.slice none 0 0), (.slice none 0 0)] 30 (0, 0))) ∧ Aside0 (w'.heap[gb521006]? = some (.cells #[(.slice Ao8 t521003.length co8), u521007001] 30 (0, 0))) ∧ Aside0 (Below w.heap.size w w'))
 case atStart => exact ⟨(0), (([] : List (List Int))), (.slice none 0 0), (by first | rfl | (simp; done) | (simp [*]; done)), H', ⟨Nat.le_refl _⟩, ⟨by (with_reducible repeat (first | apply Kd.R_alloc | apply Kd.R_drewN | apply Kd.R_drew)); exact Kd.R_mono (Kd.R_far (p := ⟨gb521006, 1, none⟩) (Kd.R_far (p := ⟨gb521006, 0, none⟩) (Kd.R_types HO521005.out BK521006.out (by decide)) (fun _ hk => hk.2) (.slice Ao8 t521003.length co8)) (fun _ hk => hk.2) (.slice none 0 0)) (fun _ hk => trivial)⟩, ⟨by first | exact Kd.S_nil _ _ _ _ _ | exact Kd.N_nil _ _ _ _ _ | exact Kd.V_nil _ _ _ _ _ | exact Kd.Q_nil _ _ _ _ _ | exact Kd.R_nil _ _ _ _ _⟩, ⟨by (with_reducible repeat (first | refine blk_drewN ?_ _ | refine blk_drew ?_ | refine blk_alloc ?_ _)); refine blk_far ?_ NB521001_521006.out _; (with_reducible repeat (first | refine blk_drewN ?_ _ | refine blk_drew ?_ | refine blk_alloc ?_ _)); refine blk_far ?_ NB521001_521006.out _; (with_reducible repeat (first | refine blk_drewN ?_ _ | refine blk_drew ?_ | refine blk_alloc ?_ _)); exact BK521001.out⟩, ⟨by (with_reducible repeat (first | refine blk_drewN ?_ _ | refine blk_drew ?_ | refine blk_alloc ?_ _)); refine blk_far ?_ NB521002_521006.out _; (with_reducible repeat (first | refine blk_drewN ?_ _ | refine blk_drew ?_ | refine blk_alloc ?_ _)); refine blk_far ?_ NB521002_521006.out _; (with_reducible repeat (first | refine blk_drewN ?_ _ | refine blk_drew ?_ | refine blk_alloc ?_ _)); exact BK521002.out⟩, ⟨by (with_reducible repeat (first | refine blk_drewN ?_ _ | refine blk_drew ?_ | refine blk_alloc ?_ _)); refine blk_put (cs := #[.slice Ao8 t521003.length co8, .slice none 0 0]) ?_ 1 _ rfl; (with_reducible repeat (first | refine blk_drewN ?_ _ | refine blk_drew ?_ | refine blk_alloc ?_ _)); refine blk_put (cs := #[.slice none 0 0, .slice none 0 0]) ?_ 0 _ rfl; (with_reducible repeat (first | refine blk_drewN ?_ _ | refine blk_drew ?_ | refine blk_alloc ?_ _)); exact BK521006.out⟩, ⟨by repeat (first | (with_reducible first | exact HB.out | apply below_alloc | apply pw_below_drewN | apply below_drew1 | refine below_set ?_ GE521001.out | refine below_set ?_ GE521002.out | refine below_set ?_ GE521006.out) | exact HB.out)⟩⟩
 case round =>
  clear H'
  try clear c1
  try clear p2
  try clear c5
  try clear c10
  try clear c11
  try clear hcz12_0
  try clear hcz12_1
  try clear hcz13_0
  try clear hcz13_1
  try clear hcz6_0
  try clear hcz6_1
  try clear hfz12_0
  try clear hfz12_1
  try clear hfz13_0
  try clear hfz13_1
  try clear hfz6_0
  try clear hfz6_1
  obtain ⟨x13_1, x521007001_1, u521007001, rfl, HA, HK1, HO_521007000, HO_521007001, BK521001, BK521002, BK521006, HB⟩ := hrel
  cases gk with
  | zero => exact absurd HA.out (by simp [impl_cloneWeb.l0])
  | succ k1 =>
   have H := HA.out
   clear HA
   simp only [impl_cloneWeb.l0] at H
   by_cases c14 : x13_1 < (l0_1.length : Int)
   rotate_left
   ·rw [if_neg c14] at H
    have c14b0 : decide (x13_1 < (l0_1.length : Int)) = false := decide_eq_false c14
    clear c14
    simp only [Option.some.injEq, Prod.mk.injEq] at H
    obtain ⟨rfl, rfl⟩ := H
    have hnb25 := NB521006_521001.out
    have hnc25 := NB521001_521006.out
    have hnb26 := NB521006_521002.out
    have hnc26 := NB521002_521006.out
    have hcz27_0 : wr.cell? ⟨gb521006, 0, none⟩ = some (.slice Ao8 t521003.length co8) := (blk_cell BK521006.out 0).trans rfl
    have hcz27_1 : wr.cell? ⟨gb521006, 1, none⟩ = some (u521007001) := (blk_cell BK521006.out 1).trans rfl
    have hfz27_0 := blk_frozen BK521006.out 0
    have hfz27_1 := blk_frozen BK521006.out 1
    have hnb28 := NB521002_521001.out
    have hnc28 := NB521001_521002.out
    have hcz29_0 : wr.cell? ⟨gb521002, 0, none⟩ = some (.slice none 0 0) := (blk_cell BK521002.out 0).trans rfl
    have hcz29_1 : wr.cell? ⟨gb521002, 1, none⟩ = some (.slice none 0 0) := (blk_cell BK521002.out 1).trans rfl
    have hfz29_0 := blk_frozen BK521002.out 0
    have hfz29_1 := blk_frozen BK521002.out 1
    obtain ⟨Ao30, co30, eo30⟩ := Kd.S_slice HO_521007001.out
    subst eo30
    go_wp2
    refine bodyPost_ret (results_cell_row rfl _ _ gb521002 30 #[.slice Ao8 t521003.length co8, .slice Ao30 x521007001_1.length co30] (0, 0) _ rfl (by (with_reducible repeat (first | refine blk_drewN ?_ _ | refine blk_drew ?_ | refine blk_alloc ?_ _)); refine blk_put (cs := #[.slice Ao8 t521003.length co8, .slice none 0 0]) ?_ 1 _ rfl; (with_reducible repeat (first | refine blk_drewN ?_ _ | refine blk_drew ?_ | refine blk_alloc ?_ _)); refine blk_put (cs := #[.slice none 0 0, .slice none 0 0]) ?_ 0 _ rfl; (with_reducible repeat (first | refine blk_drewN ?_ _ | refine blk_drew ?_ | refine blk_alloc ?_ _)); exact BK521002.out) Try.underlying30 rfl (by kernel_rfl)) rfl ?_
    exact ⟨_, _, by first | rfl | (simp [errW_none, errW_some] <;> rfl) | (simp [*, errW_none, errW_some] <;> rfl), by (with_reducible repeat (first | apply Kd.R_alloc | apply Kd.R_drewN | apply Kd.R_drew)); exact Kd.R_mono (Kd.R_far (p := ⟨gb521002, 1, none⟩) (Kd.R_far (p := ⟨gb521002, 0, none⟩) (Kd.R_types HO_521007000.out BK521002.out (by decide)) (fun _ hk => hk.2) (.slice Ao8 t521003.length co8)) (fun _ hk => hk.2) (.slice Ao30 x521007001_1.length co30)) (fun _ hk => trivial), by (with_reducible repeat (first | apply Kd.S_alloc | apply Kd.S_drewN | apply Kd.S_drew)); exact Kd.S_mono (Kd.S_far (p := ⟨gb521002, 1, none⟩) (Kd.S_far (p := ⟨gb521002, 0, none⟩) (Kd.S_types HO_521007001.out BK521002.out (by decide)) (fun _ hk => hk.2) (.slice Ao8 t521003.length co8)) (fun _ hk => hk.2) (.slice Ao30 x521007001_1.length co30)) (fun _ hk => hk.1), by repeat (first | (with_reducible first | exact HB.out | apply below_alloc | apply pw_below_drewN | apply below_drew1 | refine below_set ?_ GE521001.out | refine below_set ?_ GE521002.out | refine below_set ?_ GE521006.out) | exact HB.out)⟩
   rw [if_pos c14] at H
   have c14b0 : decide (x13_1 < (l0_1.length : Int)) = true := decide_eq_true c14
   clear c14
   by_cases c15 : 0 ≤ x13_1
   rotate_left
   ·rw [if_neg c15] at H
    exact absurd H (by simp)
   rw [if_pos c15] at H
   have c15b0 : decide (0 ≤ x13_1) = true := decide_eq_true c15
   clear c15
   by_cases c16 : x13_1 < (l0_1.length : Int)
   rotate_left
   ·rw [if_neg c16] at H
    exact absurd H (by simp)
   rw [if_pos c16] at H
   have c16b0 : decide (x13_1 < (l0_1.length : Int)) = true := decide_eq_true c16
   clear c16
   replace H := Option.bind_eq_some_iff.mp H
   obtain ⟨t521008, A170, H⟩ := H
   replace H : (if x521007001_1.length < 5864062014805 then (impl_cloneWeb.l0 k1 l0_1 (l0_1.length : Int) (wrap64 (x13_1 + 1)) t521003 (x521007001_1 ++ [t521008])) else (none)) = some (r1, r2) := H
   have A17 := Aside0.mk A170
   clear A170
   by_cases c18 : x521007001_1.length < 5864062014805
   rotate_left
   ·rw [if_neg c18] at H
    exact absurd H (by simp)
   rw [if_pos c18] at H
   have LMc18 := Aside0.mk c18
   clear c18
   obtain ⟨y521011, hy521011⟩ : ∃ y_ : List (List Int), y_ = (x521007001_1 ++ [t521008]) := ⟨_, rfl⟩
   replace H : (impl_cloneWeb.l0 k1 l0_1 (l0_1.length : Int) (wrap64 (x13_1 + 1)) t521003 y521011) = some (r1, r2) := by first | (rw [hy521011]; with_reducible exact H) | (have H2_ := (Option.bind_some _ _).symm.trans H; rw [hy521011]; with_reducible exact H2_) | (have H2_ := (Option.bind_some _ _).symm.trans H; with_reducible exact H2_) | with_reducible exact H | (rw [hy521011]; exact H) | exact H
   have Ny521011 := Aside0.mk hy521011
   clear hy521011
   have H' := Aside0.mk H
   clear H
   have p521007 : 0 ≤ (x13_1 : Int) := of_decide_eq_true (by first | (with_reducible assumption) | assumption)
   have q521007 : x13_1 < (l0_1.length : Int) := of_decide_eq_true (by first | (with_reducible assumption) | assumption)
   obtain ⟨ad521007, A521007_0, c521007_0, e521007, hx521007_0, hl521007_0, hi521007_0⟩ := at_L1 HR0_1.out x13_1 p521007 q521007
   cases e521007
   replace hx521007_0 := (HB.out.cell (World.block_lt_of_cell? w _ hx521007_0)).trans hx521007_0
   have HR521007_0 := Aside0.mk hi521007_0
   have HC521007_0 := Aside0.mk hl521007_0
   clear hi521007_0 hl521007_0
   replace p521007 := eq_true p521007
   replace q521007 := eq_true q521007
   try go_wp2
   have n0_ := Aside0.mk (Kd.R_drew HO_521007000.out)
   have n1_ := Aside0.mk (Kd.S_drew HO_521007001.out)
   have n2_ := Aside0.mk (blk_drew BK521001.out)
   have n3_ := Aside0.mk (blk_drew BK521002.out)
   have n4_ := Aside0.mk (blk_drew BK521006.out)
   have n5_ := Aside0.mk (below_drew1 HB.out)
   clear HO_521007000
   clear HO_521007001
   clear BK521001
   clear BK521002
   clear BK521006
   clear HB
   have HO_521007000 := n0_
   have HO_521007001 := n1_
   have BK521001 := n2_
   have BK521002 := n3_
   have BK521006 := n4_
   have HB := n5_
   clear n0_ n1_ n2_ n3_ n4_ n5_
   refine start_ (n := 8) (S := fun w' => w'.cell? ⟨gb521006, 0, none⟩ = some (.slice Ao8 t521003.length co8) ∧ w'.cell? ⟨gb521006, 1, none⟩ = some (u521007001)) (ds := [7]) bqFx52_0 (by kernel_rfl) rfl rfl ⟨(blk_cell BK521006.out 0).trans rfl, (blk_cell BK521006.out 1).trans rfl⟩ (fun hHeld => ?_); refine with_tabW impl_cloneWeb.tab5 impl_cloneWeb.bits5 (fun HT_ HW_ => ?_)
   generalize wr.drew = w19 at HO_521007000 HO_521007001 BK521001 BK521002 BK521006 HB hHeld ⊢
   refine pure_ (i := 0) (N := some 17) (v := ?_) (a' := ?_) bqFx52_1 rfl rfl (any_of HT_.out (by kernel_rfl)) (fun _ _ _ h => h) (Or.inl ⟨by rfl, ?_⟩) ?_ ?_
   rotate_left
   ·intro w'
    go_simp
    with_reducible rfl
   rotate_left
   ·simp only [Act.put, List.setIfInBounds_toArray, List.set_cons_zero, List.set_cons_succ, i64_w, i32_w]
    rfl
   refine pure_ (i := 2) (N := some 19) (v := ?_) (a' := ?_) bqFx52_2 rfl rfl (any_of HT_.out (by kernel_rfl)) (fun _ _ _ h => h) (Or.inl ⟨by rfl, ?_⟩) ?_ ?_
   rotate_left
   ·intro w'
    go_simp
    with_reducible rfl
   rotate_left
   ·simp only [Act.put, List.setIfInBounds_toArray, List.set_cons_zero, List.set_cons_succ, i64_w, i32_w]
    rfl
   refine take_ (i := 1) (N := some 18) (v := ?_) (a' := ?_) bqFx52_3 rfl rfl (take_ofW HT_.out HW_.out (by kernel_rfl)) (fun _ _ _ h => h) (Or.inl ⟨by rfl, ?_⟩) hHeld ?_ ?_
   rotate_left
   ·rintro w' ⟨s0, s1⟩
    go_simp
    with_reducible rfl
   rotate_left
   ·simp only [Act.put, List.setIfInBounds_toArray, List.set_cons_zero, List.set_cons_succ, i64_w, i32_w]
    rfl
   refine one_ (i := 3) (N := some 20) bqFx52_4 rfl rfl (one_of HT_.out (by kernel_rfl)) (by decide) (fun K hK => ?_)
   refine goes_ Try.func108 (by kernel_rfl) rfl #[.slice A521007_0 (rd_L1 l0_1 x13_1).length c521007_0] (by rfl) rfl rfl (by (try simp only [List.map_toArray, List.map_cons, List.map_nil]); first | done | rfl | (simp only [List.length_drop, List.length_take]; rfl)) ?_
   with_reducible refine (slices_Clone_int64_int64.calls _ _ (rd_L1 l0_1 x13_1) t521008 _ ?side1 ?side2 A17.out).mono ?_
   (case side1 => repeat (first | exact (Kd.C_below HR521007_0.out HB.out) | (with_reducible refine Kd.C_alloc ?_ _) | (with_reducible refine Kd.C_drewN ?_ _) | (with_reducible refine Kd.C_drew ?_)))
   (case side2 => exact HC521007_0.out)
   rintro e w20 ⟨v521009, rfl, ho0, hb⟩
   refine ⟨_, rfl, ?_⟩
   have n0_ := Aside0.mk (Kd.R_elder' (by (with_reducible repeat (first | apply Kd.R_alloc | apply Kd.R_drewN | apply Kd.R_drew)); exact HO_521007000.out) (Kd.R_base ho0) hb)
   have n1_ := Aside0.mk (Kd.S_elder' (by (with_reducible repeat (first | apply Kd.S_alloc | apply Kd.S_drewN | apply Kd.S_drew)); exact HO_521007001.out) (Kd.R_base ho0) hb)
   have n2_ := Aside0.mk (Kd.R_lower (Kd.R_new' ho0 (Kd.R_lt (by (with_reducible repeat (first | apply Kd.R_alloc | apply Kd.R_drewN | apply Kd.R_drew)); exact HO_521007000.out))) (below_size (by repeat (first | (with_reducible first | exact HB.out | apply below_alloc | apply pw_below_drewN | apply below_drew1 | refine below_set ?_ GE521001.out | refine below_set ?_ GE521002.out | refine below_set ?_ GE521006.out) | exact HB.out))))
   have n3_ := Aside0.mk (blk_below (g := gb521001) (o := .cells #[.slice A0_0 l0_0.length c0_0, .slice (some ad521007) l0_1.length c0_1] 30 (0, 0)) (by (with_reducible repeat (first | refine blk_drewN ?_ _ | refine blk_drew ?_ | refine blk_alloc ?_ _)); exact BK521001.out) hb)
   have n4_ := Aside0.mk (blk_below (g := gb521002) (o := .cells #[.slice none 0 0, .slice none 0 0] 30 (0, 0)) (by (with_reducible repeat (first | refine blk_drewN ?_ _ | refine blk_drew ?_ | refine blk_alloc ?_ _)); exact BK521002.out) hb)
   have n5_ := Aside0.mk (blk_below (g := gb521006) (o := .cells #[.slice Ao8 t521003.length co8, u521007001] 30 (0, 0)) (by (with_reducible repeat (first | refine blk_drewN ?_ _ | refine blk_drew ?_ | refine blk_alloc ?_ _)); exact BK521006.out) hb)
   have n6_ := Aside0.mk (below_step (by repeat (first | (with_reducible first | exact HB.out | apply below_alloc | apply pw_below_drewN | apply below_drew1 | refine below_set ?_ GE521001.out | refine below_set ?_ GE521002.out | refine below_set ?_ GE521006.out) | exact HB.out)) hb)
   clear HO_521007000
   clear HO_521007001
   clear BK521001
   clear BK521002
   clear BK521006
   clear HB
   have HO_521007000 := n0_
   have HO_521007001 := n1_
   have HO521010 := n2_
   have BK521001 := n3_
   have BK521002 := n4_
   have BK521006 := n5_
   have HB := n6_
   clear n0_ n1_ n2_ n3_ n4_ n5_ n6_
   (try clear hb)
   (try clear hb2)
   (try clear hk)
   (try clear hi)
   (try clear ho0)
   obtain ⟨Ao22, co22, eo22⟩ := Kd.R_slice HO521010.out
   (first | subst eo22 | (injection eo22 with f1_ f2_ f3_; have f4_ := f1_.symm; have f5_ := f3_.symm; clear f1_ f2_ f3_; subst f4_; subst f5_))
   refine hK.out _ _ ⟨(blk_cell BK521006.out 0).trans rfl, (blk_cell BK521006.out 1).trans rfl⟩ (fun hHeld => ?_)
   clear hK K
   refine norm_ (a' := ?_) ?_ ?_
   rotate_left
   ·show Act.put _ (some 20) _ = _
    simp only [Act.put, List.setIfInBounds_toArray, List.set_cons_zero, List.set_cons_succ, i64_w, i32_w]
    rfl
   refine one_ (i := 4) (N := some 21) bqFx52_5 rfl rfl (one_of HT_.out (by kernel_rfl)) (by decide) (fun K hK => ?_)
   refine value_ (w1 := ?_) (v := ?_) (by rfl) rfl ?_ ?_
   rotate_left 2
   ·go_simp
    constructor
    ·rfl
    ·rfl
   refine hK.out _ _ ⟨(blk_cell (blk_alloc BK521006.out _) 0).trans rfl, (blk_cell (blk_alloc BK521006.out _) 1).trans rfl⟩ (fun hHeld => ?_)
   clear hK K
   refine norm_ (a' := ?_) ?_ ?_
   rotate_left
   ·show Act.put _ (some 21) _ = _
    simp only [Act.put, List.setIfInBounds_toArray, List.set_cons_zero, List.set_cons_succ, i64_w, i32_w]
    rfl
   refine one_ (i := 5) (N := some 22) bqFx52_6 rfl rfl (one_of HT_.out (by kernel_rfl)) (by decide) (fun K hK => ?_)
   refine Kd.S_append_step (Kd.slice 2 (Kd.int .i64)) (w0 := w) w.heap.size (by rfl) (.tmp 18) (.tmp 21) 23 22 (.slice none 0 0) 24 rfl Try.underlying23 info22 rfl (by decide) (by omega) u521007001 x521007001_1 t521008 [.slice Ao22 t521008.length co22] (fun k_ => some k_ ≠ (.slice Ao8 t521003.length co8 : Value).ownBlock) (fun k_ => some k_ = (.slice Ao22 t521008.length co22 : Value).ownBlock) rfl rfl ?aP (fun k_ hk_ => ((Kd.R_mono (ok' := fun k_ => ((fun k_ => some k_ ≠ (.slice Ao8 t521003.length co8 : Value).ownBlock)) k_ ∧ some k_ ≠ (u521007001 : Value).ownBlock) (Kd.R_apart' (HO521010.out) (Kd.S_typed HO_521007001.out) (by decide)) (fun k_ hk => ⟨hk.1.2, hk.2⟩))).1 k_ hk_.symm) ?aF ?aO ?aB ?aS ?aL ?_
   (case aP => exact Kd.M_row (Kd.R_mono (Kd.R_tight rfl (Kd.R_mono (ok' := fun k_ => ((fun k_ => some k_ ≠ (.slice Ao8 t521003.length co8 : Value).ownBlock)) k_ ∧ some k_ ≠ (u521007001 : Value).ownBlock) (Kd.R_apart' (HO521010.out) (Kd.S_typed HO_521007001.out) (by decide)) (fun k_ hk => ⟨hk.1.2, hk.2⟩))) (fun _ h_ => h_)))
   (case aB => exact (by repeat (first | (with_reducible first | exact HB.out | apply below_alloc | apply pw_below_drewN | apply below_drew1 | refine below_set ?_ GE521001.out | refine below_set ?_ GE521002.out | refine below_set ?_ GE521006.out) | exact HB.out)))
   (case aF => exact (fun k_ hk => Kd.fresh' (Kd.R_lt (by (with_reducible repeat (first | apply Kd.R_alloc | apply Kd.R_drewN | apply Kd.R_drew)); exact HO_521007000.out)) k_ hk))
   (case aO => exact (by (with_reducible repeat (first | apply Kd.S_alloc | apply Kd.S_drewN | apply Kd.S_drew)); exact Kd.S_mono HO_521007001.out (fun k_ hk => ⟨hk.1, fun e_ => hk.2 e_⟩)))
   (case aS => exact (below_size (by repeat (first | (with_reducible first | exact HB.out | apply below_alloc | apply pw_below_drewN | apply below_drew1 | refine below_set ?_ GE521001.out | refine below_set ?_ GE521002.out | refine below_set ?_ GE521006.out) | exact HB.out))))
   (case aL => have := LMc18.out; omega)
   intro v521012 w21 ho hb hg hat
   rw [← Ny521011.out] at ho
   have n0_ := Aside0.mk (Kd.R_over' (by (with_reducible repeat (first | apply Kd.R_alloc | apply Kd.R_drewN | apply Kd.R_drew)); exact HO_521007000.out) (Kd.S_typed (by (with_reducible repeat (first | apply Kd.S_alloc | apply Kd.S_drewN | apply Kd.S_drew)); exact HO_521007001.out)) (by decide) hg)
   have n1_ := Aside0.mk (blk_grown (g := gb521001) (o := .cells #[.slice A0_0 l0_0.length c0_0, .slice (some ad521007) l0_1.length c0_1] 30 (0, 0)) (by (with_reducible repeat (first | refine blk_drewN ?_ _ | refine blk_drew ?_ | refine blk_alloc ?_ _)); exact BK521001.out) hg (Kd.S_ne HO_521007001.out BK521001.out (by decide)))
   have n2_ := Aside0.mk (blk_grown (g := gb521002) (o := .cells #[.slice none 0 0, .slice none 0 0] 30 (0, 0)) (by (with_reducible repeat (first | refine blk_drewN ?_ _ | refine blk_drew ?_ | refine blk_alloc ?_ _)); exact BK521002.out) hg (Kd.S_ne HO_521007001.out BK521002.out (by decide)))
   have n3_ := Aside0.mk (blk_grown (g := gb521006) (o := .cells #[.slice Ao8 t521003.length co8, u521007001] 30 (0, 0)) (by (with_reducible repeat (first | refine blk_drewN ?_ _ | refine blk_drew ?_ | refine blk_alloc ?_ _)); exact BK521006.out) hg (Kd.S_ne HO_521007001.out BK521006.out (by decide)))
   have n4_ := Aside0.mk (hb)
   have n5_ := Aside0.mk (ho)
   clear HO_521007000
   clear BK521001
   clear BK521002
   clear BK521006
   clear HB
   clear HO_521007001
   clear HO521010
   have HO_521007000 := n0_
   have BK521001 := n1_
   have BK521002 := n2_
   have BK521006 := n3_
   have HB := n4_
   have HO521013 := n5_
   clear n0_ n1_ n2_ n3_ n4_ n5_
   clear ho hb hg hat
   obtain ⟨Ao23, co23, eo23⟩ := Kd.S_slice HO521013.out
   (first | subst eo23 | (injection eo23 with f1_ f2_ f3_; have f4_ := f1_.symm; have f5_ := f3_.symm; clear f1_ f2_ f3_; subst f4_; subst f5_))
   refine hK.out _ _ ⟨(blk_cell BK521006.out 0).trans rfl, (blk_cell BK521006.out 1).trans rfl⟩ (fun hHeld => ?_)
   clear hK K
   refine norm_ (a' := ?_) ?_ ?_
   rotate_left
   ·show Act.put _ (some 22) _ = _
    simp only [Act.put, List.setIfInBounds_toArray, List.set_cons_zero, List.set_cons_succ, i64_w, i32_w]
    rfl
   refine pure_ (i := 6) (N := some 23) (v := ?_) (a' := ?_) bqFx52_7 rfl rfl (any_of HT_.out (by kernel_rfl)) (fun _ _ _ h => h) (Or.inl ⟨by rfl, ?_⟩) ?_ ?_
   rotate_left
   ·intro w'
    go_simp
    with_reducible rfl
   rotate_left
   ·simp only [Act.put, List.setIfInBounds_toArray, List.set_cons_zero, List.set_cons_succ, i64_w, i32_w]
    rfl
   refine last_ (i := 7) (N := none) bqFx52_8 rfl rfl (one_of HT_.out (by kernel_rfl)) (by decide) (fun K hK => ?_)
   have hs24 : w21.cell? ⟨gb521006, 1, none⟩ = some (u521007001) := (blk_cell BK521006.out 1).trans rfl
   have hfs24 := blk_frozen BK521006.out 1
   have hns24_0 := NB521001_521006.out
   have hns24_1 := NB521002_521006.out
   have hms24_0 := NB521006_521001.out
   have hms24_1 := NB521006_521002.out
   refine skip_ (w1 := ?_) (by rfl) rfl ?_ ?_
   rotate_left
   ·go_simp
    rfl
   refine hK.out _ _ ?_
   clear hK K
   refine done_ (done_of HT_.out (by kernel_rfl)) ?_
   try go_wp2
   go_roundg k1
   case measure => have := HK1.out; omega
   case rel => exact ⟨(wrap64 (x13_1 + 1)), (y521011), (.slice Ao23 y521011.length co23), (by first | rfl | (simp; done) | (simp [*]; done)), H', ⟨by have := HK1.out; omega⟩, ⟨by (with_reducible repeat (first | apply Kd.R_alloc | apply Kd.R_drewN | apply Kd.R_drew)); exact Kd.R_mono (Kd.R_far (p := ⟨gb521006, 1, none⟩) (Kd.R_types HO_521007000.out BK521006.out (by decide)) (fun _ hk => hk.2) (.slice Ao23 y521011.length co23)) (fun _ hk => trivial)⟩, ⟨by (with_reducible repeat (first | apply Kd.S_alloc | apply Kd.S_drewN | apply Kd.S_drew)); exact Kd.S_mono (Kd.S_far (p := ⟨gb521006, 1, none⟩) (Kd.S_types HO521013.out BK521006.out (by decide)) (fun _ hk => hk.2) (.slice Ao23 y521011.length co23)) (fun _ hk => hk.1)⟩, ⟨by (with_reducible repeat (first | refine blk_drewN ?_ _ | refine blk_drew ?_ | refine blk_alloc ?_ _)); refine blk_far ?_ NB521001_521006.out _; (with_reducible repeat (first | refine blk_drewN ?_ _ | refine blk_drew ?_ | refine blk_alloc ?_ _)); exact BK521001.out⟩, ⟨by (with_reducible repeat (first | refine blk_drewN ?_ _ | refine blk_drew ?_ | refine blk_alloc ?_ _)); refine blk_far ?_ NB521002_521006.out _; (with_reducible repeat (first | refine blk_drewN ?_ _ | refine blk_drew ?_ | refine blk_alloc ?_ _)); exact BK521002.out⟩, ⟨by (with_reducible repeat (first | refine blk_drewN ?_ _ | refine blk_drew ?_ | refine blk_alloc ?_ _)); refine blk_put (cs := #[.slice Ao8 t521003.length co8, u521007001]) ?_ 1 _ rfl; (with_reducible repeat (first | refine blk_drewN ?_ _ | refine blk_drew ?_ | refine blk_alloc ?_ _)); exact BK521006.out⟩, ⟨by repeat (first | (with_reducible first | exact HB.out | apply below_alloc | apply pw_below_drewN | apply below_drew1 | refine below_set ?_ GE521001.out | refine below_set ?_ GE521002.out | refine below_set ?_ GE521006.out) | exact HB.out)⟩⟩
end Go.Proofs.Ytmeggliapebkgaa.F
end
section
namespace Go.Proofs.Ytmeggliapebkgaa.Rgn
open Go
def dst (ops : Array Oper) (i : Nat) : Option Nat := (ops[i]?).bind (·.dst)
def deps (ops : Array Oper) (i : Nat) : List Nat := match ops[i]? with
  | some o => (o.after.toList.filter (fun e => Region.binds .any e)).map (·.on)
  | none => []
def plain (ops : Array Oper) (n : Nat) : Bool :=
  (List.range ops.size).all fun i => (ops[i]?).all (·.guard.isNone) && (deps ops i).all (fun j => decide (j < i)) && (dst ops i).all (fun s => s < n && (List.range ops.size).all fun j => i == j || !(dst ops j == some s))
def setb (L : Nat → Bool) (i : Nat) : Nat → Bool := fun j => j == i || L j
def setv (V : Nat → Value) (i : Nat) (v : Value) : Nat → Value := fun j => if j = i then v else V j
structure At (ops : Array Oper) (b : Act) (V : Nat → Value) (L : Nat → Bool) (a : Act) : Prop where
  size : a.tmps.size = b.tmps.size
  defers : a.defers = b.defers
  put : ∀ i s, L i = true → dst ops i = some s → a.tmps[s]? = some (V i)
  old : ∀ s, (∀ i, L i = true → dst ops i ≠ some s) → a.tmps[s]? = b.tmps[s]?
def noDst (ops : Array Oper) (s : Nat) : Bool := (List.range ops.size).all fun i => !(dst ops i == some s)
theorem At.keeps {ops : Array Oper} {b : Act} {V : Nat → Value} {L : Nat → Bool} {a : Act} (h : At ops b V L a) {s : Nat} (hn : noDst ops s = true) : a.tmps[s]? = b.tmps[s]? :=
  h.old s fun i _ hi => by
    have hlt : i < ops.size := by
      unfold dst at hi
      rcases Nat.lt_or_ge i ops.size with h' | h'
      · exact h'
      · rw [Array.getElem?_eq_none h'] at hi; cases hi
    have := List.all_eq_true.1 hn i (List.mem_range.2 hlt)
    rw [hi] at this
    simp at this
theorem At.start (ops : Array Oper) (b : Act) (V : Nat → Value) : At ops b V (fun _ => false) b :=
  ⟨rfl, rfl, fun _ _ h _ => Bool.noConfusion h, fun _ _ => rfl⟩
theorem plain_ne {ops : Array Oper} {n : Nat} (h : plain ops n = true) {i j s : Nat} (hi : dst ops i = some s) (hj : dst ops j = some s) : i = j := by
  have hlt : ∀ {k t}, dst ops k = some t → k < ops.size := fun {k t} hk => by
    unfold dst at hk
    rcases Nat.lt_or_ge k ops.size with h' | h'
    · exact h'
    · rw [Array.getElem?_eq_none h'] at hk; cases hk
  unfold plain at h
  rw [List.all_eq_true] at h
  have h1 := h i (List.mem_range.2 (hlt hi))
  rw [hi] at h1
  simp only [Option.all_some, Bool.and_eq_true, List.all_eq_true] at h1
  have h2 := h1.2.2 j (List.mem_range.2 (hlt hj))
  rw [hj] at h2
  simpa using h2
theorem plain_lt {ops : Array Oper} {n : Nat} (h : plain ops n = true) {i s : Nat} (hi : dst ops i = some s) : s < n := by
  have hlt : i < ops.size := by
    unfold dst at hi
    rcases Nat.lt_or_ge i ops.size with h' | h'
    · exact h'
    · rw [Array.getElem?_eq_none h'] at hi; cases hi
  unfold plain at h
  rw [List.all_eq_true] at h
  have h1 := h i (List.mem_range.2 hlt)
  rw [hi] at h1
  simp only [Option.all_some, Bool.and_eq_true, decide_eq_true_eq] at h1
  exact h1.2.1
theorem plain_guard {ops : Array Oper} {n : Nat} (h : plain ops n = true) {i : Nat} {o : Oper} (hi : ops[i]? = some o) : o.guard = none := by
  have hlt := (Array.getElem?_eq_some_iff.1 hi).1
  unfold plain at h
  rw [List.all_eq_true] at h
  have h1 := h i (List.mem_range.2 hlt)
  rw [hi] at h1
  simp only [Option.all_some, Bool.and_eq_true] at h1
  exact Option.isNone_iff_eq_none.1 h1.1.1
theorem plain_deps {ops : Array Oper} {n : Nat} (h : plain ops n = true) {i : Nat} (hi : i < ops.size) : ∀ j ∈ deps ops i, j < i := by
  unfold plain at h
  rw [List.all_eq_true] at h
  have h1 := h i (List.mem_range.2 hi)
  simp only [Bool.and_eq_true] at h1
  have h2 := List.all_eq_true.1 h1.1.2
  exact fun j hj => of_decide_eq_true (h2 j hj)
theorem mem_deps {ops : Array Oper} {i : Nat} {o : Oper} (hi : ops[i]? = some o) (p : Nat → Bool) : (deps ops i).all p = true ↔ ∀ e ∈ o.after, Region.binds .any e = true → p e.on = true := by
  unfold deps
  rw [hi]
  simp only [List.all_eq_true, List.mem_map, List.mem_filter, Array.mem_toList_iff]
  constructor
  · intro h e he hb
    exact h _ ⟨e, ⟨he, hb⟩, rfl⟩
  · rintro h j ⟨e, ⟨he, hb⟩, rfl⟩
    exact h e he hb
theorem At.step {ops : Array Oper} {b : Act} {V : Nat → Value} {L : Nat → Bool} {a : Act} (h : At ops b V L a) (hp : plain ops b.tmps.size = true) (i : Nat) (hi : L i = false) (v : Value) :
    At ops b (setv V i v) (setb L i) (a.put (dst ops i) v) := by
  cases hd : dst ops i with
  | none =>
    refine ⟨h.size, h.defers, fun j s hj hs => ?_, fun s hs => ?_⟩
    · by_cases hji : j = i
      · subst hji; rw [hd] at hs; cases hs
      · have hL : L j = true := by simpa [setb, hji] using hj
        show a.tmps[s]? = _
        rw [h.put j s hL hs]; simp [setv, hji]
    · exact h.old s (fun j hj => hs j (by simp [setb, hj]))
  | some t =>
    have ht : t < a.tmps.size := by rw [h.size]; exact plain_lt hp hd
    refine ⟨by simp [Act.put, h.size], h.defers, fun j s hj hs => ?_, fun s hs => ?_⟩
    · show (a.tmps.setIfInBounds t v)[s]? = _
      by_cases hji : j = i
      · subst hji
        rw [hd] at hs; cases hs
        simp [setv, ht]
      · have hL : L j = true := by simpa [setb, hji] using hj
        have hst : t ≠ s := fun e => hji (plain_ne hp hs (e ▸ hd))
        rw [Array.getElem?_setIfInBounds_ne hst, h.put j s hL hs]; simp [setv, hji]
    · show (a.tmps.setIfInBounds t v)[s]? = _
      have hst : t ≠ s := fun e => hs i (by simp [setb]) (e ▸ hd)
      rw [Array.getElem?_setIfInBounds_ne hst]
      exact h.old s (fun j hj => hs j (by simp [setb, hj]))
theorem At.same {ops : Array Oper} {b : Act} {V : Nat → Value} {L : Nat → Bool} {a a' : Act} (h : At ops b V L a) (h' : At ops b V L a') : a = a' := by
  obtain ⟨t, d⟩ := a
  obtain ⟨t', d'⟩ := a'
  have hd : d = d' := h.defers.trans h'.defers.symm
  subst hd
  have ht : t = t' := by
    refine Array.ext_getElem? (fun s => ?_)
    by_cases hs : ∃ i, L i = true ∧ dst ops i = some s
    · obtain ⟨i, hi, hs⟩ := hs
      exact (h.put i s hi hs).trans (h'.put i s hi hs).symm
    · have hs' : ∀ i, L i = true → dst ops i ≠ some s := fun i hi e => hs ⟨i, hi, e⟩
      exact (h.old s hs').trans (h'.old s hs').symm
  rw [ht]
def upTo (ops : Array Oper) (b : Act) (V : Nat → Value) : Nat → Act
  | 0 => b
  | n + 1 => (upTo ops b V n).put (dst ops n) (V n)
theorem At.upTo {ops : Array Oper} {b : Act} (V : Nat → Value) (hp : plain ops b.tmps.size = true) : ∀ n, At ops b V (fun i => decide (i < n)) (upTo ops b V n)
  | 0 => by
    have e : (fun i : Nat => decide (i < 0)) = fun _ => false := by funext i; simp
    rw [e]; exact At.start ops b V
  | n + 1 => by
    have h := (At.upTo V hp n).step hp n (by simp) (V n)
    have e1 : setv V n (V n) = V := by funext j; unfold setv; split <;> simp_all
    have e2 : setb (fun i => decide (i < n)) n = fun i => decide (i < n + 1) := by
      funext j; unfold setb
      rw [Bool.eq_iff_iff]
      simp only [Bool.or_eq_true, beq_iff_eq, decide_eq_true_eq]
      omega
    rw [e1, e2] at h
    exact h
section
variable {P : Program} {ops : Array Oper} {Q : Exit → Act → World → Prop}
theorem any_inv {b : Act} (I : (Nat → Bool) → (Nat → Value) → World → Prop) (hp : plain ops b.tmps.size = true)
    (hstep : ∀ i o, ops[i]? = some o → ∀ L V a w, L i = false → (deps ops i).all L = true → At ops b V L a → I L V w →
      ∀ K : Act → World → Prop, (∀ v w', I (setb L i) (setv V i v) w' → K (a.put o.dst v) w') → o.wp P a w K Q)
    (hend : ∀ V w, I (fun i => decide (i < ops.size)) V w → Q .normal (upTo ops b V ops.size) w) :
    ∀ (fuel : Nat) (listed : Array Bool) (V : Nat → Value) (a : Act) (w : World), listed.size = ops.size → listed.toList.count false ≤ fuel →
      At ops b V (fun i => listed.getD i false) a → I (fun i => listed.getD i false) V w → wpAny P .any ops Q fuel listed a w := by
  have hall : ∀ (listed : Array Bool), listed.size = ops.size → Region.ready .any ops listed = [] → ∀ i, i < ops.size → listed.getD i false = true := by
    intro listed hsz hr i
    induction i using Nat.strongRecOn with
    | _ i ih =>
      intro hi
      cases hb : listed.getD i false with
      | true => rfl
      | false =>
        exfalso
        have hil : i < listed.size := by omega
        have hb' : listed.getD i true = false := by
          simp only [Array.getD_eq_getD_getElem?, Array.getElem?_eq_getElem hil, Option.getD_some] at hb ⊢
          exact hb
        have hd : (deps ops i).all (fun j => listed.getD j false) = true := List.all_eq_true.2 fun j hj => ih j (plain_deps hp hi j hj) (Nat.lt_trans (plain_deps hp hi j hj) hi)
        have hm : i ∈ Region.ready .any ops listed := mem_ready.2 ⟨hb', ops[i], Array.getElem?_eq_getElem hi, (mem_deps (Array.getElem?_eq_getElem hi) _).1 hd⟩
        rw [hr] at hm
        cases hm
  have hfin : ∀ (listed : Array Bool) (V : Nat → Value) (a : Act) (w : World), listed.size = ops.size → At ops b V (fun i => listed.getD i false) a → I (fun i => listed.getD i false) V w → Region.ready .any ops listed = [] → Q .normal a w := by
    intro listed V a w hsz hA hI hr
    have e : (fun i => listed.getD i false) = fun i => decide (i < ops.size) := by
      funext i
      rcases Nat.lt_or_ge i ops.size with h | h
      · rw [hall listed hsz hr i h]; simp [h]
      · rw [Array.getD_eq_getD_getElem?, Array.getElem?_eq_none (by omega)]; simp [Nat.not_lt.2 h]
    rw [e] at hA hI
    have := hA.same (At.upTo V hp ops.size)
    rw [this]
    exact hend V w hI
  intro fuel
  induction fuel with
  | zero =>
    intro listed V a w hsz hc hA hI
    have hr : Region.ready .any ops listed = [] := by
      rw [List.eq_nil_iff_forall_not_mem]
      intro i hi
      obtain ⟨h0, o, ho, _⟩ := mem_ready.1 hi
      have hlt : i < listed.size := by rw [hsz]; exact (Array.getElem?_eq_some_iff.1 ho).1
      rw [Array.getD_eq_getD_getElem?, Array.getElem?_eq_getElem hlt, Option.getD_some] at h0
      have hm : false ∈ listed.toList := by rw [← h0]; exact Array.getElem_mem_toList hlt
      have := List.count_pos_iff.2 hm
      omega
    exact ⟨hr, hfin listed V a w hsz hA hI hr⟩
  | succ fuel ih =>
    intro listed V a w hsz hc hA hI
    refine ⟨hfin listed V a w hsz hA hI, fun i hi => ?_⟩
    obtain ⟨h0, o, ho, hdep⟩ := mem_ready.1 hi
    have hlt : i < listed.size := by rw [hsz]; exact (Array.getElem?_eq_some_iff.1 ho).1
    have hL : listed.getD i false = false := by
      rw [Array.getD_eq_getD_getElem?, Array.getElem?_eq_getElem hlt, Option.getD_some] at h0 ⊢
      exact h0
    have hw : Region.wanted o (yielded ops a.tmps) = true := by
      unfold Region.wanted; rw [plain_guard hp ho]
    have hdst : o.dst = dst ops i := by unfold dst; rw [ho]; rfl
    unfold wpOp
    rw [ho]
    simp only [hw, if_true]
    refine Or.inl (hstep i o ho _ V a w hL ((mem_deps ho _).2 hdep) hA hI _ (fun v w' hI' => ?_))
    have e : (fun j => (listed.setIfInBounds i true).getD j false) = setb (fun j => listed.getD j false) i := by
      funext j
      unfold setb
      by_cases hji : j = i
      · subst hji; simp [hlt]
      · rw [Array.getD_eq_getD_getElem?, Array.getElem?_setIfInBounds_ne (Ne.symm hji), ← Array.getD_eq_getD_getElem?]; simp [hji]
    refine ih (listed.setIfInBounds i true) (setv V i v) _ w' (by simp [hsz]) ?_ (by rw [e, hdst]; exact hA.step hp i hL v) (by rw [e]; exact hI')
    have h1 : listed.toList[i]'(by simpa using hlt) = false := by
      rw [Array.getD_eq_getD_getElem?, Array.getElem?_eq_getElem hlt, Option.getD_some] at h0
      simpa using h0
    have h2 : (listed.setIfInBounds i true).toList = listed.toList.set i true := by simp
    rw [h2, List.count_set (by simpa using hlt), h1]
    have h3 : 0 < listed.toList.count false := List.count_pos_iff.2 (by rw [← h1]; exact List.getElem_mem _)
    simp only [show ((true : Bool) == false) = false from rfl, show ((false : Bool) == false) = true from rfl, if_true, Bool.false_eq_true, if_false]
    omega
theorem region_inv {id : Nat} {a : Act} {w : World} (I : (Nat → Bool) → (Nat → Value) → World → Prop) (hm : P.follows .mixedOrders = true) (hp : plain ops a.tmps.size = true)
    (h0 : I (fun _ => false) (fun _ => undef) w.drew)
    (hstep : ∀ i o, ops[i]? = some o → ∀ L V b w', L i = false → (deps ops i).all L = true → At ops a V L b → I L V w' →
      ∀ K : Act → World → Prop, (∀ v w'', I (setb L i) (setv V i v) w'' → K (b.put o.dst v) w'') → o.wp P b w' K Q)
    (hend : ∀ V w', I (fun i => decide (i < ops.size)) V w' → Q .normal (upTo ops a V ops.size) w') : (Code.region id ops true).wp P Q a w := by
  refine wp_region_any hm (any_inv I hp hstep hend ops.size _ (fun _ => undef) a _ (by simp) ?_ ?_ ?_)
  · have : (Array.replicate ops.size false).toList = List.replicate ops.size false := by simp
    rw [this]; simp
  · have e : (fun i => (Array.replicate ops.size false).getD i false) = fun _ => false := by
      funext i
      rw [Array.getD_eq_getD_getElem?]
      rcases Nat.lt_or_ge i ops.size with h | h <;> simp [h]
    rw [e]; exact At.start ops a _
  · have e : (fun i => (Array.replicate ops.size false).getD i false) = fun _ => false := by
      funext i
      rw [Array.getD_eq_getD_getElem?]
      rcases Nat.lt_or_ge i ops.size with h | h <;> simp [h]
    rw [e]; exact h0
end
theorem consts_step {cst : Nat → Option Value} {L : Nat → Bool} {V : Nat → Value} (h : ∀ j u, L j = true → cst j = some u → V j = u) (i : Nat) (v : Value) (hv : ∀ u, cst i = some u → v = u) :
    ∀ j u, setb L i j = true → cst j = some u → setv V i v j = u := by
  intro j u hj hu
  by_cases e : j = i
  · subst e; simp only [setv, if_true]; exact hv u hu
  · simp only [setv, if_neg e]
    exact h j u (by simpa [setb, e] using hj) hu
end Go.Proofs.Ytmeggliapebkgaa.Rgn
end
section
namespace Go.Proofs.Ytmeggliapebkgaa.F
open Go.RowKit Go.Proofs.YtmeggliapebkgaaW.PrintWords Go.Proofs.YtmeggliapebkgaaW.PrintLast Go.Proofs.YtmeggliapebkgaaW.PrintMore
attribute [local go_sem] max2_int min2_int max_two min_two max_three min_three max_four min_four   
set_option linter.unusedVariables false
set_option linter.unusedSimpArgs false
open Go.Proofs.Ytmeggliapebkgaa.Mem Go.Proofs.Ytmeggliapebkgaa.Web Go.Maps Go.Proofs.YtmeggliapebkgaaW.PrintLast Go.Proofs.Ytmeggliapebkgaa.Rgn
theorem S_put {W : World} {base g n cap : Nat} {ok okg : Nat → Prop} {L : List (List Int)} {f : List Int} {v : Value} (h : Kd.S (Kd.slice 2 (Kd.int .i64)) 22 W base (fun k => ok k ∧ ¬ okg k) (.slice (some ⟨g, 0, none⟩) n cap) L) (hg : ∀ k, okg k → ok k) (i : Nat) (hi : i < n) (hv : Kd.R (Kd.int .i64) 2 W base okg v f) (hgn : ∀ k, okg k → k ≠ g) (ho : v.oneCell' = true) :
  Kd.S (Kd.slice 2 (Kd.int .i64)) 22 (W.setCell ⟨g, i, none⟩ v) base ok (.slice (some ⟨g, 0, none⟩) n cap) (L.set i f) := by
 obtain ⟨oki, c, hcl, hM, hcc, hoki, hH⟩ := Kd.S_lend h [] (i : Int) (by omega) (by omega)
 have hH2 := Kd.H_more hH hg
 have hc1 : c.length = 1 := hcl
 obtain ⟨hH3, hgr⟩ := Kd.H_seg hH2 (by omega) (by omega) (seg := [v]) (j := 0) (by show 0 + 1 ≤ 1; omega) (by simpa using ho)
 have e1 : W.setCells g ((i : Int).toNat * (Kd.slice 2 (Kd.int .i64)).sz + 0) [v] = W.setCell ⟨g, i, none⟩ v := by
  rw [show (Kd.slice 2 (Kd.int .i64)).sz = 1 from rfl, Nat.mul_one, Nat.add_zero, Int.toNat_natCast]; rfl
 have e2 : c.take 0 ++ [v] ++ c.drop (0 + [v].length) = [v] := by
  rw [List.drop_eq_nil_of_le (by rw [hc1]; simp)]; simp
 rw [e1, e2] at hH3
 have := Kd.H_back hH3 (x' := f) (okp := okg) ⟨v, rfl, Kd.R_far (p := ⟨g, i, none⟩) hv hgn v⟩ (fun k hk => Or.inr hk)
 rw [Int.toNat_natCast] at this
 exact this
structure TwoW (B : Nat) (okR okP okT okQ : Nat → Prop) (G0 : Option Addr) (g0 gp g1 : Nat) (G2 : Option Addr) (g2 gq g3 p q : Nat) (l : List Int) (n : Nat) (Lp Lq : List (List Int)) (w : World) : Prop where
 r : Kd.R (Kd.int .i64) 2 w B okR (.slice G0 l.length g0) l
 s : Kd.S (Kd.slice 2 (Kd.int .i64)) 22 w B okP (.slice (some ⟨gp, 0, none⟩) n g1) Lp
 t : Kd.R (Kd.int .i64) 2 w B okT (.slice G2 l.length g2) l
 u : Kd.S (Kd.slice 2 (Kd.int .i64)) 22 w B okQ (.slice (some ⟨gq, 0, none⟩) n g3) Lq
 bp : w.heap[p]? = some (.cells #[.slice G0 l.length g0, .slice (some ⟨gp, 0, none⟩) n g1] 30 (0, 0))
 bq : w.heap[q]? = some (.cells #[.slice G2 l.length g2, .slice (some ⟨gq, 0, none⟩) n g3] 30 (0, 0))
section
variable {B : Nat} {okR okP okT okQ : Nat → Prop} {G0 : Option Addr} {g0 gp g1 : Nat} {G2 : Option Addr} {g2 gq g3 p q : Nat} {l : List Int} {n : Nat} {Lp Lq : List (List Int)} {w : World}
theorem TwoW.swap (h : TwoW B okR okP okT okQ G0 g0 gp g1 G2 g2 gq g3 p q l n Lp Lq w) : TwoW B okT okQ okR okP G2 g2 gq g3 G0 g0 gp g1 q p l n Lq Lp w := ⟨h.t, h.u, h.r, h.s, h.bq, h.bp⟩
theorem TwoW.alloc (h : TwoW B okR okP okT okQ G0 g0 gp g1 G2 g2 gq g3 p q l n Lp Lq w) (o : Obj) : TwoW B okR okP okT okQ G0 g0 gp g1 G2 g2 gq g3 p q l n Lp Lq (w.alloc o) := ⟨Kd.R_alloc h.r o, Kd.S_alloc h.s o, Kd.R_alloc h.t o, Kd.S_alloc h.u o, blk_alloc h.bp o, blk_alloc h.bq o⟩
theorem TwoW.drewN (h : TwoW B okR okP okT okQ G0 g0 gp g1 G2 g2 gq g3 p q l n Lp Lq w) (k : Nat) : TwoW B okR okP okT okQ G0 g0 gp g1 G2 g2 gq g3 p q l n Lp Lq (w.drewN k) := ⟨Kd.R_drewN h.r k, Kd.S_drewN h.s k, Kd.R_drewN h.t k, Kd.S_drewN h.u k, h.bp, h.bq⟩
theorem TwoW.drew (h : TwoW B okR okP okT okQ G0 g0 gp g1 G2 g2 gq g3 p q l n Lp Lq w) : TwoW B okR okP okT okQ G0 g0 gp g1 G2 g2 gq g3 p q l n Lp Lq w.drew := ⟨Kd.R_below h.r (below_drew1 (Below.refl _ _)), Kd.S_below h.s (below_drew1 (Below.refl _ _)), Kd.R_below h.t (below_drew1 (Below.refl _ _)), Kd.S_below h.u (below_drew1 (Below.refl _ _)), h.bp, h.bq⟩
theorem TwoW.okp (h : TwoW B okR okP okT okQ G0 g0 gp g1 G2 g2 gq g3 p q l n Lp Lq w) : okP gp := by
 obtain ⟨f, h0, _⟩ := h.s
 exact h0 gp rfl
theorem TwoW.put (h : TwoW B okR okP okT okQ G0 g0 gp g1 G2 g2 gq g3 p q l n Lp Lq w) {okg : Nat → Prop} {f : List Int} {v : Value} (hv : Kd.R (Kd.int .i64) 2 w B okg v f) (ho : v.oneCell' = true) (hd : ∀ k, okg k → ¬ okP k) (hq : ∀ k, okQ k → k ≠ gp) (i : Nat) (hi : i < n) : TwoW B okR (fun k => okP k ∨ okg k) okT okQ G0 g0 gp g1 G2 g2 gq g3 p q l n (Lp.set i f) Lq (w.setCell ⟨gp, i, none⟩ v) := by
 obtain ⟨cs, hc⟩ := Kd.S_typed h.s gp rfl
 have hp := h.okp
 exact ⟨Kd.R_set h.r hc (by decide) i v, S_put (ok := fun k => okP k ∨ okg k) (okg := okg) (Kd.S_mono h.s (fun k hk => ⟨Or.inl hk, fun hg => hd k hg hk⟩)) (fun k hk => Or.inr hk) i hi hv (fun k hk e => hd k hk (e ▸ hp)) ho, Kd.R_set h.t hc (by decide) i v, Kd.S_far (p := ⟨gp, i, none⟩) h.u hq v, blk_far (p := ⟨gp, i, none⟩) h.bp (blk_ne h.bp hc (by decide)) v, blk_far (p := ⟨gp, i, none⟩) h.bq (blk_ne h.bq hc (by decide)) v⟩
end
def Inv10 (B n6 : Nat) (W5 : World) (okR okP okT okQ : Nat → Prop) (G0 : Option Addr) (g0 gp g1 : Nat) (G2 : Option Addr) (g2 gq g3 p q : Nat) (l : List Int) (n : Nat) (Lp Lq : List (List Int)) (i j : Nat) (ra rb : List Int) (l9 l13 l15 l17 : Bool) (v9 v13 : Value) (w : World) : Prop :=
 Below W5.heap.size W5 w ∧ n6 ≤ w.heap.size ∧ ∃ r r' : Nat, (l9 = true → v9 = .slice (some ⟨r, 0, none⟩) 3 3 ∧ n6 ≤ r ∧ Kd.R (Kd.int .i64) 2 w B (fun k => k = r) (.slice (some ⟨r, 0, none⟩) 3 3) ra)
  ∧ (l13 = true → v13 = .slice (some ⟨r', 0, none⟩) 3 3 ∧ n6 ≤ r' ∧ Kd.R (Kd.int .i64) 2 w B (fun k => k = r') (.slice (some ⟨r', 0, none⟩) 3 3) rb) ∧ (l9 = true → l13 = true → r ≠ r')
  ∧ (l15 = false → TwoW B okR okP okT okQ G0 g0 gp g1 G2 g2 gq g3 p q l n Lp Lq w)
  ∧ (l15 = true → l17 = false → TwoW B okR (fun k => okP k ∨ k = r) okT okQ G0 g0 gp g1 G2 g2 gq g3 p q l n (Lp.set i ra) Lq w)
  ∧ (l17 = true → TwoW B okR (fun k => (okP k ∨ k = r) ∨ k = r') okT okQ G0 g0 gp g1 G2 g2 gq g3 p q l n ((Lp.set i ra).set j rb) Lq w)
  ∧ (l17 = true → l15 = true) ∧ (l15 = true → l9 = true) ∧ (l17 = true → l13 = true)
section
variable {B n6 : Nat} {W5 : World} {okR okP okT okQ : Nat → Prop} {G0 : Option Addr} {g0 gp g1 : Nat} {G2 : Option Addr} {g2 gq g3 p q : Nat} {l : List Int} {n : Nat} {Lp Lq : List (List Int)} {i j : Nat} {ra rb : List Int} {l9 l13 l15 l17 : Bool} {v9 v13 : Value} {w : World}
theorem Inv10.start (h : TwoW B okR okP okT okQ G0 g0 gp g1 G2 g2 gq g3 p q l n Lp Lq w) (hb : Below W5.heap.size W5 w) (hn : n6 ≤ w.heap.size) : Inv10 B n6 W5 okR okP okT okQ G0 g0 gp g1 G2 g2 gq g3 p q l n Lp Lq i j ra rb false false false false v9 v13 w := ⟨hb, hn, 0, 0, by simp, by simp, by simp, fun _ => h, by simp, by simp, by simp, by simp, by simp⟩
theorem Inv10.bp (h : Inv10 B n6 W5 okR okP okT okQ G0 g0 gp g1 G2 g2 gq g3 p q l n Lp Lq i j ra rb l9 l13 l15 l17 v9 v13 w) : w.heap[p]? = some (.cells #[.slice G0 l.length g0, .slice (some ⟨gp, 0, none⟩) n g1] 30 (0, 0)) := by
 obtain ⟨_, _, r, r', _, _, _, h1, h2, h3, _⟩ := h
 cases l15 with
 | false => exact (h1 rfl).bp
 | true =>
  cases l17 with
  | false => exact (h2 rfl rfl).bp
  | true => exact (h3 rfl).bp
theorem Inv10.cellP (h : Inv10 B n6 W5 okR okP okT okQ G0 g0 gp g1 G2 g2 gq g3 p q l n Lp Lq i j ra rb l9 l13 l15 l17 v9 v13 w) (m : Nat) (hm : m < n) : ∃ u, w.cell? ⟨gp, m, none⟩ = some u ∧ w.frozen? ⟨gp, m, none⟩ = false := by
 have key : ∀ {okX : Nat → Prop} {L : List (List Int)}, Kd.S (Kd.slice 2 (Kd.int .i64)) 22 w B okX (.slice (some ⟨gp, 0, none⟩) n g1) L → ∃ u, w.cell? ⟨gp, m, none⟩ = some u ∧ w.frozen? ⟨gp, m, none⟩ = false := fun {okX L} hS => by
  obtain ⟨oki, c, hcl, _, hcc, _⟩ := Kd.S_lend hS [] (m : Int) (by omega) (by omega)
  obtain ⟨cs, hcs⟩ := Kd.S_typed hS gp rfl
  have hc1 : c.length = 1 := hcl
  match c, hc1 with
  | [u], _ =>
   have := hcc 0 u rfl
   rw [show (Kd.slice 2 (Kd.int .i64)).sz = 1 from rfl, Nat.mul_one, Nat.add_zero, Int.toNat_natCast] at this
   exact ⟨u, this, blk_frozen hcs m⟩
 obtain ⟨_, _, r, r', _, _, _, h1, h2, h3, _⟩ := h
 cases l15 with
 | false => exact key (h1 rfl).s
 | true =>
  cases l17 with
  | false => exact key (h2 rfl rfl).s
  | true => exact key (h3 rfl).s
theorem Inv10.row9 (h : Inv10 B n6 W5 okR okP okT okQ G0 g0 gp g1 G2 g2 gq g3 p q l n Lp Lq i j ra rb l9 l13 l15 l17 v9 v13 w) (h9 : l9 = true) : ∃ r : Nat, v9 = .slice (some ⟨r, 0, none⟩) 3 3 := by
 obtain ⟨_, _, r, r', ha, _⟩ := h
 exact ⟨r, (ha h9).1⟩
theorem Inv10.row13 (h : Inv10 B n6 W5 okR okP okT okQ G0 g0 gp g1 G2 g2 gq g3 p q l n Lp Lq i j ra rb l9 l13 l15 l17 v9 v13 w) (h13 : l13 = true) : ∃ r : Nat, v13 = .slice (some ⟨r, 0, none⟩) 3 3 := by
 obtain ⟨_, _, r, r', _, ha, _⟩ := h
 exact ⟨r', (ha h13).1⟩
theorem row3 {W : World} (hB : B ≤ W.heap.size) (a b c : Int) : Kd.R (Kd.int .i64) 2 (W.alloc (.cells #[.int .i64 a, .int .i64 b, .int .i64 c] 2)) B (fun k => k = W.heap.size) (.slice (some ⟨W.heap.size, 0, none⟩) 3 3) [a, b, c] :=
 R_of_block_ok (xs := [a, b, c]) (new_at rfl) rfl (show (3 : Nat) ≤ maxLen by decide) hB _ rfl
theorem Inv10.mk9 {a b c : Int} (h : Inv10 B n6 W5 okR okP okT okQ G0 g0 gp g1 G2 g2 gq g3 p q l n Lp Lq i j [a, b, c] rb l9 l13 l15 l17 v9 v13 w) (h9 : l9 = false) (hB : B ≤ n6) : Inv10 B n6 W5 okR okP okT okQ G0 g0 gp g1 G2 g2 gq g3 p q l n Lp Lq i j [a, b, c] rb true l13 l15 l17 (.slice (some ⟨w.heap.size, 0, none⟩) 3 3) v13 (w.alloc (.cells #[.int .i64 a, .int .i64 b, .int .i64 c] 2)) := by
 subst h9
 obtain ⟨hb, hn, r, r', ha, hb', hne, h1, h2, h3, o1, o2, o3⟩ := h
 have h15 : l15 = false := by cases l15 with | false => rfl | true => exact absurd (o2 rfl) (by simp)
 subst h15
 have h17 : l17 = false := by cases l17 with | false => rfl | true => exact absurd (o1 rfl) (by simp)
 subst h17
 refine ⟨below_alloc hb _, by simp; omega, w.heap.size, r', fun _ => ⟨rfl, hn, row3 (Nat.le_trans hB hn) a b c⟩, fun h => ⟨(hb' h).1, (hb' h).2.1, Kd.R_alloc (hb' h).2.2 _⟩, fun _ h e => ?_, fun _ => (h1 rfl).alloc _, by simp, by simp, by simp, by simp, by simp⟩
 have := Kd.R_lt (hb' h).2.2 r' rfl
 omega
theorem Inv10.mk13 {a b c : Int} (h : Inv10 B n6 W5 okR okP okT okQ G0 g0 gp g1 G2 g2 gq g3 p q l n Lp Lq i j ra [a, b, c] l9 l13 l15 l17 v9 v13 w) (h13 : l13 = false) (hB : B ≤ n6) : Inv10 B n6 W5 okR okP okT okQ G0 g0 gp g1 G2 g2 gq g3 p q l n Lp Lq i j ra [a, b, c] l9 true l15 l17 v9 (.slice (some ⟨w.heap.size, 0, none⟩) 3 3) (w.alloc (.cells #[.int .i64 a, .int .i64 b, .int .i64 c] 2)) := by
 subst h13
 obtain ⟨hb, hn, r, r', ha, hb', hne, h1, h2, h3, o1, o2, o3⟩ := h
 have h17 : l17 = false := by cases l17 with | false => rfl | true => exact absurd (o3 rfl) (by simp)
 subst h17
 refine ⟨below_alloc hb _, by simp; omega, r, w.heap.size, fun h => ⟨(ha h).1, (ha h).2.1, Kd.R_alloc (ha h).2.2 _⟩, fun _ => ⟨rfl, hn, row3 (Nat.le_trans hB hn) a b c⟩, fun h _ e => ?_, fun h => (h1 h).alloc _, fun h k => (h2 h k).alloc _, by simp, by simp, o2, by simp⟩
 have := Kd.R_lt (ha h).2.2 r rfl
 omega
theorem Inv10.st15 (h : Inv10 B n6 W5 okR okP okT okQ G0 g0 gp g1 G2 g2 gq g3 p q l n Lp Lq i j ra rb l9 l13 l15 l17 v9 v13 w) (h9 : l9 = true) (h15 : l15 = false) (hi : i < n) (hP : ∀ k, okP k → k < n6) (hQ : ∀ k, okQ k → k ≠ gp) (hW : W5.heap.size ≤ gp) :
  Inv10 B n6 W5 okR okP okT okQ G0 g0 gp g1 G2 g2 gq g3 p q l n Lp Lq i j ra rb l9 l13 true l17 v9 v13 (w.setCell ⟨gp, i, none⟩ v9) := by
 subst h9 h15
 obtain ⟨hb, hn, r, r', ha, hb', hne, h1, h2, h3, o1, o2, o3⟩ := h
 have h17 : l17 = false := by cases l17 with | false => rfl | true => exact absurd (o1 rfl) (by simp)
 subst h17
 obtain ⟨rfl, hr, hR⟩ := ha rfl
 have T := h1 rfl
 have hgp := hP _ T.okp
 refine ⟨below_set hb hW, by simpa using hn, r, r', fun _ => ⟨rfl, hr, Kd.R_far (p := ⟨gp, i, none⟩) hR (fun k hk => by simp only; omega) _⟩, fun h => ⟨(hb' h).1, (hb' h).2.1, Kd.R_far (p := ⟨gp, i, none⟩) (hb' h).2.2 (fun k hk => by have := (hb' h).2.1; simp only; omega) _⟩, hne, by simp, fun _ _ => T.put hR rfl (fun k hk hp => by have := hP k hp; omega) hQ i hi, by simp, by simp, by simp, by simp⟩
theorem Inv10.st17 (h : Inv10 B n6 W5 okR okP okT okQ G0 g0 gp g1 G2 g2 gq g3 p q l n Lp Lq i j ra rb l9 l13 l15 l17 v9 v13 w) (h9 : l9 = true) (h13 : l13 = true) (h15 : l15 = true) (h17 : l17 = false) (hj : j < n) (hP : ∀ k, okP k → k < n6) (hQ : ∀ k, okQ k → k ≠ gp) (hW : W5.heap.size ≤ gp) (hgp : gp < n6) :
  Inv10 B n6 W5 okR okP okT okQ G0 g0 gp g1 G2 g2 gq g3 p q l n Lp Lq i j ra rb l9 l13 l15 true v9 v13 (w.setCell ⟨gp, j, none⟩ v13) := by
 subst h9 h13 h15 h17
 obtain ⟨hb, hn, r, r', ha, hb', hne, h1, h2, h3, o1, o2, o3⟩ := h
 obtain ⟨rfl, hr, hR⟩ := ha rfl
 obtain ⟨rfl, hr', hR'⟩ := hb' rfl
 have T := h2 rfl rfl
 have hn2 := hne rfl rfl
 refine ⟨below_set hb hW, by simpa using hn, r, r', fun _ => ⟨rfl, hr, Kd.R_far (p := ⟨gp, j, none⟩) hR (fun k hk => by simp only; omega) _⟩, fun _ => ⟨rfl, hr', Kd.R_far (p := ⟨gp, j, none⟩) hR' (fun k hk => by simp only; omega) _⟩, hne, by simp, by simp, fun _ => T.put hR' rfl (fun k hk hp => hp.elim (fun hp => by have := hP k hp; omega) (fun hp => by omega)) hQ j hj, by simp, by simp, by simp⟩
theorem Inv10.fin (h : Inv10 B n6 W5 okR okP okT okQ G0 g0 gp g1 G2 g2 gq g3 p q l n Lp Lq i j ra rb l9 l13 l15 l17 v9 v13 w) (h17 : l17 = true) : Below W5.heap.size W5 w ∧ n6 ≤ w.heap.size ∧ ∃ r r' : Nat, v9 = .slice (some ⟨r, 0, none⟩) 3 3 ∧ v13 = .slice (some ⟨r', 0, none⟩) 3 3 ∧ n6 ≤ r ∧ n6 ≤ r' ∧ r < w.heap.size ∧ r' < w.heap.size ∧ TwoW B okR (fun k => (okP k ∨ k = r) ∨ k = r') okT okQ G0 g0 gp g1 G2 g2 gq g3 p q l n ((Lp.set i ra).set j rb) Lq w := by
 subst h17
 obtain ⟨hb, hn, r, r', ha, hb', hne, h1, h2, h3, o1, o2, o3⟩ := h
 obtain ⟨e1, k1, R1⟩ := ha (o2 (o1 rfl))
 obtain ⟨e2, k2, R2⟩ := hb' (o3 rfl)
 exact ⟨hb, hn, r, r', e1, e2, k1, k2, Kd.R_lt R1 r rfl, Kd.R_lt R2 r' rfl, h3 rfl⟩
end
def rowsCst (FP F vi vj ve x1 y1 x2 y2 ai aj : Value) : Nat → Option Value
 | 0 => some FP | 1 => some F | 2 => some vi | 3 => some FP | 4 => some F | 5 => some vj | 6 => some ve | 7 => some x1 | 8 => some y1 | 10 => some ve | 11 => some x2 | 12 => some y2 | 14 => some ai | 16 => some aj | _ => none
set_option maxHeartbeats 8000000 in
set_option maxRecDepth 100000 in
theorem three_one (k : Nat) (A0 : Option Addr) (c0 : Nat) (l : List Int) (A1 : Option Addr) (c1 : Nat) (L : List (List Int)) (e : Int) (i j : Nat) (a b c d : Int) (w : World) (hr0 : Kd.C (Kd.int .i64) w A0 l.length l) (hc0 : l.length ≤ c0) (hr1 : Kd.C (Kd.slice 2 (Kd.int .i64)) w A1 L.length L) (hc1 : L.length ≤ c1) (h1 : impl_IsWeb.f l L = some true) (h2 : impl_cloneWeb.f k l L = some (l, L)) (hweb : isWebC l L = true) (hwf : wfW l L = true) (he : (Lit.int .i64 e).wf = true) (hE : ends (inc l L) e = [l.length + i, l.length + j]) (hi : i < L.length) (hj : j < L.length) (hij : i ≠ j) (ha : impl_around.f k (L.getD i []) e = some (a, b)) (hc : impl_around.f k (L.getD j []) e = some (c, d)) :
  Calls Try.prog 13 #[.agg #[.slice A0 l.length c0, .slice A1 L.length c1], .int .i64 e] w fun x w' => ∃ (z : Nat) (G0 : Option Addr) (g0 gp g1 : Nat) (G2 : Option Addr) (g2 gq g3 p q : Nat) (okR okP okT okQ : Nat → Prop), x = .returned (.tuple #[.slice (some ⟨z, 0, none⟩) 2 2, .int .i64 0]) ∧
   w'.heap[z]? = some (.cells #[.slice G0 l.length g0, .slice (some ⟨gp, 0, none⟩) L.length g1, .slice G2 l.length g2, .slice (some ⟨gq, 0, none⟩) L.length g3] 30 (0, 0)) ∧ TwoW w.heap.size okR okP okT okQ G0 g0 gp g1 G2 g2 gq g3 p q l L.length ((L.set i [e, d, a]).set j [e, b, c]) ((L.set i [e, d, b]).set j [e, c, a]) w' ∧
   (∀ k, okP k → ¬ okR k) ∧ (∀ k, okT k → ¬ okR k) ∧ (∀ k, okT k → ¬ okP k) ∧ (∀ k, okQ k → ¬ okR k) ∧ (∀ k, okQ k → ¬ okP k) ∧ (∀ k, okQ k → ¬ okT k) ∧ (∀ k, okR k → k < z) ∧ (∀ k, okP k → k < z) ∧ (∀ k, okT k → k < z) ∧ (∀ k, okQ k → k < z) ∧ w.heap.size ≤ z ∧ Below w.heap.size w w' := by
 have hu28 := Try.underlying30
 have HR0 := Aside0.mk hr0
 have HC0 := Aside0.mk hc0
 have HR1 := Aside0.mk hr1
 have HC1 := Aside0.mk hc1
 have H1 := Aside0.mk h1
 have H2 := Aside0.mk h2
 have HE := Aside0.mk hE
 have HI := Aside0.mk hi
 have HJ := Aside0.mk hj
 have HIJ := Aside0.mk hij
 have HA := Aside0.mk ha
 have HCD := Aside0.mk hc
 obtain ⟨h8, h3, htw, _⟩ := web_of hweb
 have H8 := Aside0.mk h8
 have H3 := Aside0.mk h3
 have HWF := Aside0.mk (fun p hp => List.all_eq_true.1 hwf p hp)
 have hkey := keyOf_int_mk Try.underlying2 he
 clear h8 h3 htw hweb hwf hr0 hc0 hr1 hc1 h1 h2 hE hi hj hij ha hc
 go_enter Try.func13, Try.ntmps13
 go_wp2_with fail
 have b0 : (w.alloc (.cells #[.slice A0 l.length c0, .slice A1 L.length c1] 30)).heap[w.heap.size]? = some (.cells #[.slice A0 l.length c0, .slice A1 L.length c1] 30 (0, 0)) := new_at rfl
 have hB : Below w.heap.size w (w.alloc (.cells #[.slice A0 l.length c0, .slice A1 L.length c1] 30)) := below_alloc (Below.refl _ _) _
 generalize (w.alloc (.cells #[.slice A0 l.length c0, .slice A1 L.length c1] 30)) = W0 at b0 hB ⊢
 refine (impl_IsWeb.calls A0 c0 l A1 c1 L true _ (Kd.C_below HR0.out hB) HC0.out (Kd.C_below HR1.out hB) HC1.out H1.out).mono ?_
 rintro x w1 ⟨rfl, hb1⟩
 have b0 := blk_below b0 hb1
 have hB := below_step hB hb1
 have B0 := Aside0.mk b0
 have HB := Aside0.mk hB
 clear b0 hB hb1
 go_wp2_with fail
 refine (stands_walk l L w.heap.size A0 c0 A1 c1 H8.out H3.out HWF.out _ B0.out (Kd.C_below HR0.out HB.out) (Kd.C_below HR1.out HB.out)).mono ?_
 rintro x w3 ⟨rfl, hgr, hb3⟩
 obtain ⟨Bm, hBm⟩ : ∃ B, B = w1.heap.size := ⟨_, rfl⟩
 rw [← hBm] at hgr ⊢
 have GR := Aside0.mk hgr
 have b0 := blk_below B0.out hb3
 have q0 := (blk_cell b0 0).trans rfl
 have q1 := (blk_cell b0 1).trans rfl
 have B0 := Aside0.mk b0
 have HB := Aside0.mk (below_step HB.out hb3)
 have HIL := Aside0.mk (show (inc l L).length ≤ 100 from by rw [inc_len H3.out]; have := H8.out; omega)
 clear hgr b0 hb3 hBm
 go_wp2_with (first
  | (at_lookup; refine wpList_lookup_groups _ rfl _ _ 76 rfl 2 72 3 .i64 webKey Try.underlying76 (webZero _) (Bm + 1) Bm (inc l L).length _ rfl GR.out (by have := HIL.out; unfold maxLen; omega) _ _ rfl hkey ?_; intro v zs hat hoi hzl hback; have hz := GTo_zs (Nat.le_refl _) hoi hat; rw [List.take_length, HE.out] at hz; rw [hz] at hoi; obtain ⟨g, cap, rfl, hgb, hgl, x0, x1⟩ := own_two hoi; clear hat hoi hzl hback hz)
  | go_in)
 obtain ⟨E0, hE0⟩ : ∃ E0, E0 = l.length + i := ⟨_, rfl⟩
 obtain ⟨E1, hE1⟩ : ∃ E1, E1 = l.length + j := ⟨_, rfl⟩
 rw [← hE0] at x0
 rw [← hE1] at x1
 have g0 : decide (E0 < l.length) = false := decide_eq_false (by omega)
 have g1 : (E0 == E1) = false := beq_eq_false_iff_ne.2 (by have := HIJ.out; omega)
 have g2 : decide (E0 = E1) = false := decide_eq_false (by have := HIJ.out; omega)
 have g3 : ((E0 : Int) == (E1 : Int)) = false := beq_eq_false_iff_ne.2 (by have := HIJ.out; omega)
 have s0 : wrap64 ((E0 : Int) - (l.length : Int)) = (i : Int) := by have := H8.out; have := HI.out; unfold wrap64; omega
 have s1 : wrap64 ((E1 : Int) - (l.length : Int)) = (j : Int) := by clear s0; have := H8.out; have := HJ.out; unfold wrap64; omega
 have s0' : IntKind.i64.wrap ((E0 : Int) - (l.length : Int)) = (i : Int) := by rw [i64_w]; exact s0
 have s1' : IntKind.i64.wrap ((E1 : Int) - (l.length : Int)) = (j : Int) := by rw [i64_w]; exact s1
 have HE0 := Aside0.mk hE0
 have HE1 := Aside0.mk hE1
 clear hE0 hE1
 go_quiet (fail)
 go_wp2_with fail
 go_quiet (fail)
 clear s0 s1 s0' s1' g0 g1 g2 g3 q0 q1 x0 x1
 have hd : ∀ n, Below w.heap.size w (w3.drewN n) ∧ (w3.drewN n).heap[w.heap.size]? = some (.cells #[.slice A0 l.length c0, .slice A1 L.length c1] 30 (0, 0)) := fun n => ⟨below_step HB.out (pw_below_drewN (Below.refl w3.heap.size w3) n), B0.out⟩
 generalize hW : w3.drewN _ = W4
 obtain ⟨hB4, b4⟩ : Below w.heap.size w W4 ∧ W4.heap[w.heap.size]? = some (.cells #[.slice A0 l.length c0, .slice A1 L.length c1] 30 (0, 0)) := hW ▸ hd _
 clear hd hW
 obtain ⟨ad, Ai, ci, eA, xi, hci, hCi⟩ := row_of_C (Kd.C_below HR1.out hB4) i HI.out
 obtain ⟨ad', Aj, cj, eA', xj, hcj, hCj⟩ := row_of_C (Kd.C_below HR1.out hB4) j HJ.out
 subst eA
 obtain rfl := Option.some.inj eA'
 have q0 := (blk_cell b4 0).trans rfl
 have q1 := (blk_cell b4 1).trans rfl
 have t1 := HI.out
 have t2 := HJ.out
 obtain ⟨fi, hfi⟩ : ∃ f, f = L.getD i [] := ⟨_, rfl⟩
 obtain ⟨fj, hfj⟩ : ∃ f, f = L.getD j [] := ⟨_, rfl⟩
 rw [← hfi] at xi hci hCi
 rw [← hfj] at xj hcj hCj
 have HA := Aside0.mk (show impl_around.f k fi e = some (a, b) from hfi ▸ HA.out)
 have HCD := Aside0.mk (show impl_around.f k fj e = some (c, d) from hfj ▸ HCD.out)
 clear hfi hfj
 have B4 := Aside0.mk b4
 have HB4 := Aside0.mk hB4
 have HCI := Aside0.mk (And.intro hCi hci)
 have HCJ := Aside0.mk (And.intro hCj hcj)
 clear b4 hB4 hCi hCj hci hcj eA'
 go_wp2_with fail
 refine (impl_around.calls k Ai ci fi e a b _ (Kd.C_drewN HCI.out.1 _) HCI.out.2 HA.out).mono ?_
 rintro x w5 ⟨rfl, n5, rfl⟩
 go_wp2_with fail
 refine (impl_around.calls k Aj cj fj e c d _ (Kd.C_drewN HCJ.out.1 _) HCJ.out.2 HCD.out).mono ?_
 rintro x w6 ⟨rfl, n6, rfl⟩
 clear q0 q1 xi xj t1 t2
 have hd : ∀ n, Below w.heap.size w (W4.drewN n) ∧ (W4.drewN n).heap[w.heap.size]? = some (.cells #[.slice A0 l.length c0, .slice (some ad) L.length c1] 30 (0, 0)) := fun n => ⟨below_step HB4.out (pw_below_drewN (Below.refl W4.heap.size W4) n), B4.out⟩
 go_wp2_with fail
 generalize hW : W4.drewN _ = W5
 obtain ⟨hB5, b5⟩ : Below w.heap.size w W5 ∧ W5.heap[w.heap.size]? = some (.cells #[.slice A0 l.length c0, .slice (some ad) L.length c1] 30 (0, 0)) := hW ▸ hd _
 clear hd hW
 have HB5 := Aside0.mk hB5
 have B5 := Aside0.mk b5
 clear hB5 b5
 refine region_inv (fun L_ V w' => ∃ p q m : Nat, Below W5.heap.size W5 w' ∧ m ≤ w'.heap.size ∧ (L_ 0 = true → V 0 = .agg #[.slice A0 l.length c0, .slice (some ad) L.length c1]) ∧ (L_ 2 = true → V 2 = .agg #[.slice A0 l.length c0, .slice (some ad) L.length c1])
  ∧ (L_ 1 = true → ∃ v0 v1, V 1 = .agg #[v0, v1] ∧ Kd.R (Kd.int .i64) 2 w' W5.heap.size (fun k => k < m) v0 l ∧ Kd.S (Kd.slice 2 (Kd.int .i64)) 22 w' W5.heap.size (fun k => some k ≠ v0.ownBlock ∧ k < m) v1 L)
  ∧ (L_ 3 = true → ∃ v0 v1, V 3 = .agg #[v0, v1] ∧ Kd.R (Kd.int .i64) 2 w' W5.heap.size (fun k => m ≤ k) v0 l ∧ Kd.S (Kd.slice 2 (Kd.int .i64)) 22 w' W5.heap.size (fun k => some k ≠ v0.ownBlock ∧ m ≤ k) v1 L)
  ∧ (L_ 4 = true → V 4 = .pointer (some ⟨p, 0, none⟩) ∧ W5.heap.size ≤ p ∧ p < w'.heap.size ∧ (L_ 6 = false → w'.heap[p]? = some (.cells #[.slice none 0 0, .slice none 0 0] 30 (0, 0))) ∧ (L_ 6 = true → ∀ v0 v1, V 1 = .agg #[v0, v1] → w'.heap[p]? = some (.cells #[v0, v1] 30 (0, 0))))
  ∧ (L_ 5 = true → V 5 = .pointer (some ⟨q, 0, none⟩) ∧ W5.heap.size ≤ q ∧ q < w'.heap.size ∧ (L_ 7 = false → w'.heap[q]? = some (.cells #[.slice none 0 0, .slice none 0 0] 30 (0, 0))) ∧ (L_ 7 = true → ∀ v0 v1, V 3 = .agg #[v0, v1] → w'.heap[q]? = some (.cells #[v0, v1] 30 (0, 0))))
  ∧ (L_ 4 = true → L_ 5 = true → p ≠ q) ∧ (L_ 3 = true → L_ 1 = true) ∧ (L_ 6 = true → L_ 4 = true ∧ L_ 3 = true) ∧ (L_ 7 = true → L_ 5 = true ∧ L_ 3 = true)) (by kernel_rfl) (by kernel_rfl) ?h0 ?step ?fin
 case h0 => exact ⟨0, 0, 0, below_drew1 (Below.refl _ _), Nat.zero_le _, by simp, by simp, by simp, by simp, by simp, by simp, by simp, by simp, by simp, by simp⟩
 case fin =>
  rintro V w6 ⟨p, q, m, hB, hm, h0, h2, h1, h3, h4, h5, hpq, o1, o2, o3⟩
  obtain ⟨v0, v1, hV1, R1, S1⟩ := h1 (by kernel_rfl)
  obtain ⟨v2, v3, hV3, R3, S3⟩ := h3 (by kernel_rfl)
  obtain ⟨hV4, hp1, hp2, _, hp3⟩ := h4 (by kernel_rfl)
  obtain ⟨hV5, hq1, hq2, _, hq3⟩ := h5 (by kernel_rfl)
  have b13 := hp3 (by kernel_rfl) v0 v1 hV1
  have b14 := hq3 (by kernel_rfl) v2 v3 hV3
  have hne := hpq (by kernel_rfl) (by kernel_rfl)
  have hV0 := h0 (by kernel_rfl)
  have hV2 := h2 (by kernel_rfl)
  obtain ⟨G0, g0, rfl⟩ := Kd.R_slice R1
  obtain ⟨G1, g1, rfl⟩ := Kd.S_slice S1
  obtain ⟨G2, g2, rfl⟩ := Kd.R_slice R3
  obtain ⟨G3, g3, rfl⟩ := Kd.S_slice S3
  clear h0 h1 h2 h3 h4 h5 hpq o1 o2 o3 hp3 hq3
  change Exit.then _ _ Exit.normal (Rgn.upTo _ _ V 8) w6
  simp only [Rgn.upTo, Rgn.dst, hV0, hV1, hV2, hV3, hV4, hV5, Act.put, List.setIfInBounds_toArray, List.set_cons_zero, List.set_cons_succ, List.getElem?_toArray, List.getElem?_cons_zero, List.getElem?_cons_succ, Option.bind_some]
  obtain ⟨gp, hgp⟩ : ∃ gp, G1 = some ⟨gp, 0, none⟩ := by
   obtain ⟨ad1, e1, _⟩ := (Kd.S_reads' S1).2.2.2.2 (by have := HI.out; omega)
   subst e1
   obtain ⟨gp, e2⟩ := Kd.R_head (Kd.S_R S1)
   exact ⟨gp, by rw [e2]⟩
  obtain ⟨gq, hgq⟩ : ∃ gq, G3 = some ⟨gq, 0, none⟩ := by
   obtain ⟨ad1, e1, _⟩ := (Kd.S_reads' S3).2.2.2.2 (by have := HI.out; omega)
   subst e1
   obtain ⟨gq, e2⟩ := Kd.R_head (Kd.S_R S3)
   exact ⟨gq, by rw [e2]⟩
  subst hgp
  subst hgq
  obtain ⟨okR, okP, okT, okQ, T0, dPR, dTR, dTP, dQR, dQP, dQT, hRs, hPs, hTs, hQs⟩ : ∃ okR okP okT okQ : Nat → Prop, TwoW W5.heap.size okR okP okT okQ G0 g0 gp g1 G2 g2 gq g3 p q l L.length L L w6 ∧ (∀ k, okP k → ¬ okR k) ∧ (∀ k, okT k → ¬ okR k) ∧ (∀ k, okT k → ¬ okP k) ∧ (∀ k, okQ k → ¬ okR k) ∧ (∀ k, okQ k → ¬ okP k) ∧ (∀ k, okQ k → ¬ okT k) ∧ (∀ k, okR k → k < w6.heap.size) ∧ (∀ k, okP k → k < w6.heap.size) ∧ (∀ k, okT k → k < w6.heap.size) ∧ (∀ k, okQ k → k < w6.heap.size) :=
   ⟨fun k => some k = (Value.slice G0 l.length g0).ownBlock ∧ k < m, fun k => some k ≠ (Value.slice G0 l.length g0).ownBlock ∧ k < m, fun k => (some k = (Value.slice G2 l.length g2).ownBlock ∧ m ≤ k) ∧ k < w6.heap.size, fun k => (some k ≠ (Value.slice G2 l.length g2).ownBlock ∧ m ≤ k) ∧ k < w6.heap.size,
    ⟨Kd.R_mono (Kd.R_tight rfl R1) (fun k hk => ⟨hk, R1.1 k hk.symm⟩), S1, Kd.R_mono (Kd.R_tight rfl R3) (fun k hk => ⟨⟨hk, R3.1 k hk.symm⟩, Kd.R_lt R3 k hk.symm⟩), Kd.S_mono (Kd.S_bound S3) (fun k hk => ⟨hk.1, hk.2.2.1⟩), b13, b14⟩,
    fun k h g => h.1 g.1, fun k h g => by have := h.1.2; have := g.2; omega, fun k h g => by have := h.1.2; have := g.2; omega, fun k h g => by have := h.1.2; have := g.2; omega, fun k h g => by have := h.1.2; have := g.2; omega, fun k h g => h.1.1 g.1.1, fun k h => by have := h.2; omega, fun k h => by have := h.2; omega, fun k h => h.2, fun k h => h.2⟩
  have hgpW : W5.heap.size ≤ gp := Kd.S_base T0.s gp rfl
  have hgqW : W5.heap.size ≤ gq := Kd.S_base T0.u gq rfl
  have hgp6 : gp < w6.heap.size := hPs _ T0.okp
  have hgq6 : gq < w6.heap.size := hQs _ T0.swap.okp
  have hQgp : ∀ k, okQ k → k ≠ gp := fun k hk e => dQP k hk (e ▸ T0.okp)
  have hPgq : ∀ k, okP k → k ≠ gq := fun k hk e => dQP gq T0.swap.okp (e ▸ hk)
  clear R1 S1 R3 S3 b13 b14 hm hne hV0 hV1 hV2 hV3 hV4 hV5
  go_wp2_with fail
  refine region_inv (fun L_ V w' => (∀ s u, L_ s = true → rowsCst (.pointer (some ⟨p, 1, none⟩)) (.slice (some ⟨gp, 0, none⟩) L.length g1) (.int .i64 (i : Int)) (.int .i64 (j : Int)) (.int .i64 e) (.int .i64 d) (.int .i64 a) (.int .i64 b) (.int .i64 c) (.pointer (some ⟨gp, i, none⟩)) (.pointer (some ⟨gp, j, none⟩)) s = some u → V s = u) ∧ Inv10 W5.heap.size w6.heap.size W5 okR okP okT okQ G0 g0 gp g1 G2 g2 gq g3 p q l L.length L L i j [e, d, a] [e, b, c] (L_ 9) (L_ 13) (L_ 15) (L_ 17) (V 9) (V 13) w') (by kernel_rfl) (by kernel_rfl) ?h0A ?stepA ?finA
  case h0A => exact ⟨(fun s u h => by cases h), Inv10.start T0.drew (below_drew1 hB) (Nat.le_refl _)⟩
  case stepA =>
   intro i_ o ho L_ V bb w' hL hdep hAt hI K hK
   obtain ⟨hC, hI⟩ := hI
   have bp := hI.bp
   have y1 := (blk_cell bp 1).trans rfl
   match i_, ho, hL, hdep, hK with
   | 0, ho, hL, hdep, hK =>
    have E13 : bb.tmps[13]? = some (.pointer (some ⟨p, 0, none⟩)) := (hAt.keeps (by kernel_rfl)).trans rfl
    obtain rfl := Option.some.inj ho
    unfold Oper.wp
    go_simp
    exact hK (.pointer (some ⟨p, 1, none⟩)) w' ⟨Rgn.consts_step hC 0 _ (fun u hu => Option.some.inj hu), hI⟩
   | 1, ho, hL, hdep, hK =>
    have d0 : L_ 0 = true := List.all_eq_true.1 hdep 0 (List.contains_iff_mem.1 (by kernel_rfl))
    have E0 : bb.tmps[80]? = some (.pointer (some ⟨p, 1, none⟩)) := (hAt.put 0 80 d0 rfl).trans (congrArg some (hC 0 _ d0 rfl))
    obtain rfl := Option.some.inj ho
    unfold Oper.wp
    go_simp
    exact hK (.slice (some ⟨gp, 0, none⟩) L.length g1) w' ⟨Rgn.consts_step hC 1 _ (fun u hu => Option.some.inj hu), hI⟩
   | 2, ho, hL, hdep, hK =>
    have E7 : bb.tmps[7]? = some (.int .i64 (i : Int)) := (hAt.keeps (by kernel_rfl)).trans rfl
    obtain rfl := Option.some.inj ho
    unfold Oper.wp
    go_simp
    exact hK (.int .i64 (i : Int)) w' ⟨Rgn.consts_step hC 2 _ (fun u hu => Option.some.inj hu), hI⟩
   | 3, ho, hL, hdep, hK =>
    have E13 : bb.tmps[13]? = some (.pointer (some ⟨p, 0, none⟩)) := (hAt.keeps (by kernel_rfl)).trans rfl
    obtain rfl := Option.some.inj ho
    unfold Oper.wp
    go_simp
    exact hK (.pointer (some ⟨p, 1, none⟩)) w' ⟨Rgn.consts_step hC 3 _ (fun u hu => Option.some.inj hu), hI⟩
   | 4, ho, hL, hdep, hK =>
    have d3 : L_ 3 = true := List.all_eq_true.1 hdep 3 (List.contains_iff_mem.1 (by kernel_rfl))
    have E3 : bb.tmps[83]? = some (.pointer (some ⟨p, 1, none⟩)) := (hAt.put 3 83 d3 rfl).trans (congrArg some (hC 3 _ d3 rfl))
    obtain rfl := Option.some.inj ho
    unfold Oper.wp
    go_simp
    exact hK (.slice (some ⟨gp, 0, none⟩) L.length g1) w' ⟨Rgn.consts_step hC 4 _ (fun u hu => Option.some.inj hu), hI⟩
   | 5, ho, hL, hdep, hK =>
    have E8 : bb.tmps[8]? = some (.int .i64 (j : Int)) := (hAt.keeps (by kernel_rfl)).trans rfl
    obtain rfl := Option.some.inj ho
    unfold Oper.wp
    go_simp
    exact hK (.int .i64 (j : Int)) w' ⟨Rgn.consts_step hC 5 _ (fun u hu => Option.some.inj hu), hI⟩
   | 6, ho, hL, hdep, hK =>
    have E1 : bb.tmps[1]? = some (.int .i64 e) := (hAt.keeps (by kernel_rfl)).trans rfl
    obtain rfl := Option.some.inj ho
    unfold Oper.wp
    go_simp
    exact hK (.int .i64 e) w' ⟨Rgn.consts_step hC 6 _ (fun u hu => Option.some.inj hu), hI⟩
   | 7, ho, hL, hdep, hK =>
    have E12 : bb.tmps[12]? = some ((.int .i64 d)) := (hAt.keeps (by kernel_rfl)).trans rfl
    obtain rfl := Option.some.inj ho
    unfold Oper.wp
    go_simp
    exact hK ((.int .i64 d)) w' ⟨Rgn.consts_step hC 7 _ (fun u hu => Option.some.inj hu), hI⟩
   | 8, ho, hL, hdep, hK =>
    have E9 : bb.tmps[9]? = some ((.int .i64 a)) := (hAt.keeps (by kernel_rfl)).trans rfl
    obtain rfl := Option.some.inj ho
    unfold Oper.wp
    go_simp
    exact hK ((.int .i64 a)) w' ⟨Rgn.consts_step hC 8 _ (fun u hu => Option.some.inj hu), hI⟩
   | 9, ho, hL, hdep, hK =>
    have d6 : L_ 6 = true := List.all_eq_true.1 hdep 6 (List.contains_iff_mem.1 (by kernel_rfl))
    have E6 : bb.tmps[86]? = some (.int .i64 e) := (hAt.put 6 86 d6 rfl).trans (congrArg some (hC 6 _ d6 rfl))
    have d7 : L_ 7 = true := List.all_eq_true.1 hdep 7 (List.contains_iff_mem.1 (by kernel_rfl))
    have E7 : bb.tmps[87]? = some ((.int .i64 d)) := (hAt.put 7 87 d7 rfl).trans (congrArg some (hC 7 _ d7 rfl))
    have d8 : L_ 8 = true := List.all_eq_true.1 hdep 8 (List.contains_iff_mem.1 (by kernel_rfl))
    have E8 : bb.tmps[88]? = some ((.int .i64 a)) := (hAt.put 8 88 d8 rfl).trans (congrArg some (hC 8 _ d8 rfl))
    obtain rfl := Option.some.inj ho
    unfold Oper.wp
    go_simp
    exact hK _ _ ⟨Rgn.consts_step hC 9 _ (fun u hu => by cases hu), hI.mk9 hL hB.size⟩
   | 10, ho, hL, hdep, hK =>
    have E1 : bb.tmps[1]? = some (.int .i64 e) := (hAt.keeps (by kernel_rfl)).trans rfl
    obtain rfl := Option.some.inj ho
    unfold Oper.wp
    go_simp
    exact hK (.int .i64 e) w' ⟨Rgn.consts_step hC 10 _ (fun u hu => Option.some.inj hu), hI⟩
   | 11, ho, hL, hdep, hK =>
    have E10 : bb.tmps[10]? = some ((.int .i64 b)) := (hAt.keeps (by kernel_rfl)).trans rfl
    obtain rfl := Option.some.inj ho
    unfold Oper.wp
    go_simp
    exact hK ((.int .i64 b)) w' ⟨Rgn.consts_step hC 11 _ (fun u hu => Option.some.inj hu), hI⟩
   | 12, ho, hL, hdep, hK =>
    have E11 : bb.tmps[11]? = some ((.int .i64 c)) := (hAt.keeps (by kernel_rfl)).trans rfl
    obtain rfl := Option.some.inj ho
    unfold Oper.wp
    go_simp
    exact hK ((.int .i64 c)) w' ⟨Rgn.consts_step hC 12 _ (fun u hu => Option.some.inj hu), hI⟩
   | 13, ho, hL, hdep, hK =>
    have d10 : L_ 10 = true := List.all_eq_true.1 hdep 10 (List.contains_iff_mem.1 (by kernel_rfl))
    have E10 : bb.tmps[90]? = some (.int .i64 e) := (hAt.put 10 90 d10 rfl).trans (congrArg some (hC 10 _ d10 rfl))
    have d11 : L_ 11 = true := List.all_eq_true.1 hdep 11 (List.contains_iff_mem.1 (by kernel_rfl))
    have E11 : bb.tmps[91]? = some ((.int .i64 b)) := (hAt.put 11 91 d11 rfl).trans (congrArg some (hC 11 _ d11 rfl))
    have d12 : L_ 12 = true := List.all_eq_true.1 hdep 12 (List.contains_iff_mem.1 (by kernel_rfl))
    have E12 : bb.tmps[92]? = some ((.int .i64 c)) := (hAt.put 12 92 d12 rfl).trans (congrArg some (hC 12 _ d12 rfl))
    obtain rfl := Option.some.inj ho
    unfold Oper.wp
    go_simp
    exact hK _ _ ⟨Rgn.consts_step hC 13 _ (fun u hu => by cases hu), hI.mk13 hL hB.size⟩
   | 14, ho, hL, hdep, hK =>
    have d1 : L_ 1 = true := List.all_eq_true.1 hdep 1 (List.contains_iff_mem.1 (by kernel_rfl))
    have E1 : bb.tmps[81]? = some (.slice (some ⟨gp, 0, none⟩) L.length g1) := (hAt.put 1 81 d1 rfl).trans (congrArg some (hC 1 _ d1 rfl))
    have d2 : L_ 2 = true := List.all_eq_true.1 hdep 2 (List.contains_iff_mem.1 (by kernel_rfl))
    have E2 : bb.tmps[82]? = some (.int .i64 (i : Int)) := (hAt.put 2 82 d2 rfl).trans (congrArg some (hC 2 _ d2 rfl))
    have g1 : decide ((i : Int) < (L.length : Int)) = true := decide_eq_true (by have := HI.out; omega)
    have g2 : decide (i < L.length) = true := decide_eq_true HI.out
    have g3 := add_plain gp i
    have g4 := HI.out
    obtain rfl := Option.some.inj ho
    unfold Oper.wp
    go_simp
    exact hK (.pointer (some ⟨gp, i, none⟩)) w' ⟨Rgn.consts_step hC 14 _ (fun u hu => Option.some.inj hu), hI⟩
   | 15, ho, hL, hdep, hK =>
    have d14 : L_ 14 = true := List.all_eq_true.1 hdep 14 (List.contains_iff_mem.1 (by kernel_rfl))
    have E14 : bb.tmps[94]? = some (.pointer (some ⟨gp, i, none⟩)) := (hAt.put 14 94 d14 rfl).trans (congrArg some (hC 14 _ d14 rfl))
    have d9 : L_ 9 = true := List.all_eq_true.1 hdep 9 (List.contains_iff_mem.1 (by kernel_rfl))
    obtain ⟨r, hr⟩ := hI.row9 d9
    have E9 : bb.tmps[89]? = some (.slice (some ⟨r, 0, none⟩) 3 3) := (hAt.put 9 89 d9 rfl).trans (congrArg some hr)
    obtain ⟨u0, c1, f1⟩ := hI.cellP i HI.out
    obtain rfl := Option.some.inj ho
    unfold Oper.wp
    go_simp
    have z := hI.st15 d9 hL HI.out hPs hQgp hgpW
    rw [hr] at z
    refine hK undef _ ⟨Rgn.consts_step hC 15 _ (fun u hu => by cases hu), ?_⟩
    show Inv10 _ _ _ _ _ _ _ _ _ _ _ _ _ _ _ _ _ _ _ _ _ _ _ _ _ (L_ 9) (L_ 13) true (L_ 17) (V 9) (V 13) _
    rw [hr]
    exact z
   | 16, ho, hL, hdep, hK =>
    have d4 : L_ 4 = true := List.all_eq_true.1 hdep 4 (List.contains_iff_mem.1 (by kernel_rfl))
    have E4 : bb.tmps[84]? = some (.slice (some ⟨gp, 0, none⟩) L.length g1) := (hAt.put 4 84 d4 rfl).trans (congrArg some (hC 4 _ d4 rfl))
    have d5 : L_ 5 = true := List.all_eq_true.1 hdep 5 (List.contains_iff_mem.1 (by kernel_rfl))
    have E5 : bb.tmps[85]? = some (.int .i64 (j : Int)) := (hAt.put 5 85 d5 rfl).trans (congrArg some (hC 5 _ d5 rfl))
    have g1 : decide ((j : Int) < (L.length : Int)) = true := decide_eq_true (by have := HJ.out; omega)
    have g2 : decide (j < L.length) = true := decide_eq_true HJ.out
    have g3 := add_plain gp j
    have g4 := HJ.out
    obtain rfl := Option.some.inj ho
    unfold Oper.wp
    go_simp
    exact hK (.pointer (some ⟨gp, j, none⟩)) w' ⟨Rgn.consts_step hC 16 _ (fun u hu => Option.some.inj hu), hI⟩
   | 17, ho, hL, hdep, hK =>
    have d16 : L_ 16 = true := List.all_eq_true.1 hdep 16 (List.contains_iff_mem.1 (by kernel_rfl))
    have E16 : bb.tmps[95]? = some (.pointer (some ⟨gp, j, none⟩)) := (hAt.put 16 95 d16 rfl).trans (congrArg some (hC 16 _ d16 rfl))
    have d13 : L_ 13 = true := List.all_eq_true.1 hdep 13 (List.contains_iff_mem.1 (by kernel_rfl))
    have d9 : L_ 9 = true := List.all_eq_true.1 hdep 9 (List.contains_iff_mem.1 (by kernel_rfl))
    have d15 : L_ 15 = true := List.all_eq_true.1 hdep 15 (List.contains_iff_mem.1 (by kernel_rfl))
    obtain ⟨r, hr⟩ := hI.row13 d13
    have E13 : bb.tmps[93]? = some (.slice (some ⟨r, 0, none⟩) 3 3) := (hAt.put 13 93 d13 rfl).trans (congrArg some hr)
    obtain ⟨u0, c1, f1⟩ := hI.cellP j HJ.out
    obtain rfl := Option.some.inj ho
    unfold Oper.wp
    go_simp
    have z := hI.st17 d9 d13 d15 hL HJ.out hPs hQgp hgpW hgp6
    rw [hr] at z
    refine hK undef _ ⟨Rgn.consts_step hC 17 _ (fun u hu => by cases hu), ?_⟩
    show Inv10 _ _ _ _ _ _ _ _ _ _ _ _ _ _ _ _ _ _ _ _ _ _ _ _ _ (L_ 9) (L_ 13) (L_ 15) true (V 9) (V 13) _
    rw [hr]
    exact z
   | n + 18, ho, hL, hdep, hK => cases ho
  rintro V w7 ⟨hC, hI⟩
  obtain ⟨hbA, hnA, rA, sA, e9, e13, krA, ksA, lrA, lsA, TA⟩ := hI.fin (by kernel_rfl)
  have hV0 := hC 0 _ (by kernel_rfl) rfl
  have hV1 := hC 1 _ (by kernel_rfl) rfl
  have hV2 := hC 2 _ (by kernel_rfl) rfl
  have hV3 := hC 3 _ (by kernel_rfl) rfl
  have hV4 := hC 4 _ (by kernel_rfl) rfl
  have hV5 := hC 5 _ (by kernel_rfl) rfl
  have hV6 := hC 6 _ (by kernel_rfl) rfl
  have hV7 := hC 7 _ (by kernel_rfl) rfl
  have hV8 := hC 8 _ (by kernel_rfl) rfl
  have hV10 := hC 10 _ (by kernel_rfl) rfl
  have hV11 := hC 11 _ (by kernel_rfl) rfl
  have hV12 := hC 12 _ (by kernel_rfl) rfl
  have hV14 := hC 14 _ (by kernel_rfl) rfl
  have hV16 := hC 16 _ (by kernel_rfl) rfl
  clear hC hI
  change Exit.then _ _ Exit.normal (Rgn.upTo _ _ V 18) w7
  simp only [Rgn.upTo, Rgn.dst, hV0, hV1, hV2, hV3, hV4, hV5, hV6, hV7, hV8, hV10, hV11, hV12, hV14, hV16, e9, e13, Act.put, List.setIfInBounds_toArray, List.set_cons_zero, List.set_cons_succ, List.getElem?_toArray, List.getElem?_cons_zero, List.getElem?_cons_succ, Option.bind_some, Option.bind_none]
  clear e9 e13 hV0 hV1 hV2 hV3 hV4 hV5 hV6 hV7 hV8 hV10 hV11 hV12 hV14 hV16
  obtain ⟨okP2, hokP2⟩ : ∃ f : Nat → Prop, f = fun k => (okP k ∨ k = rA) ∨ k = sA := ⟨_, rfl⟩
  rw [← hokP2] at TA
  have hP2gq : ∀ k, okP2 k → k ≠ gq := fun k hk => by rw [hokP2] at hk; exact hk.elim (fun hk => hk.elim (fun hk => hPgq k hk) (fun hk => by omega)) (fun hk => by omega)
  have hQ7 : ∀ k, okQ k → k < w7.heap.size := fun k hk => Nat.lt_of_lt_of_le (hQs k hk) hnA
  go_wp2_with fail
  refine region_inv (fun L_ V w' => (∀ s u, L_ s = true → rowsCst (.pointer (some ⟨q, 1, none⟩)) (.slice (some ⟨gq, 0, none⟩) L.length g3) (.int .i64 (i : Int)) (.int .i64 (j : Int)) (.int .i64 e) (.int .i64 d) (.int .i64 b) (.int .i64 c) (.int .i64 a) (.pointer (some ⟨gq, i, none⟩)) (.pointer (some ⟨gq, j, none⟩)) s = some u → V s = u) ∧ Inv10 W5.heap.size w7.heap.size W5 okT okQ okR okP2 G2 g2 gq g3 G0 g0 gp g1 q p l L.length L ((L.set i [e, d, a]).set j [e, b, c]) i j [e, d, b] [e, c, a] (L_ 9) (L_ 13) (L_ 15) (L_ 17) (V 9) (V 13) w') (by kernel_rfl) (by kernel_rfl) ?h0B ?stepB ?finB
  case h0B => exact ⟨(fun s u h => by cases h), Inv10.start TA.swap.drew (below_drew1 hbA) (Nat.le_refl _)⟩
  case stepB =>
   intro i_ o ho L_ V bb w' hL hdep hAt hI K hK
   obtain ⟨hC, hI⟩ := hI
   have bp := hI.bp
   have y1 := (blk_cell bp 1).trans rfl
   match i_, ho, hL, hdep, hK with
   | 0, ho, hL, hdep, hK =>
    have E14 : bb.tmps[14]? = some (.pointer (some ⟨q, 0, none⟩)) := (hAt.keeps (by kernel_rfl)).trans rfl
    obtain rfl := Option.some.inj ho
    unfold Oper.wp
    go_simp
    exact hK (.pointer (some ⟨q, 1, none⟩)) w' ⟨Rgn.consts_step hC 0 _ (fun u hu => Option.some.inj hu), hI⟩
   | 1, ho, hL, hdep, hK =>
    have d0 : L_ 0 = true := List.all_eq_true.1 hdep 0 (List.contains_iff_mem.1 (by kernel_rfl))
    have E0 : bb.tmps[96]? = some (.pointer (some ⟨q, 1, none⟩)) := (hAt.put 0 96 d0 rfl).trans (congrArg some (hC 0 _ d0 rfl))
    obtain rfl := Option.some.inj ho
    unfold Oper.wp
    go_simp
    exact hK (.slice (some ⟨gq, 0, none⟩) L.length g3) w' ⟨Rgn.consts_step hC 1 _ (fun u hu => Option.some.inj hu), hI⟩
   | 2, ho, hL, hdep, hK =>
    have E7 : bb.tmps[7]? = some (.int .i64 (i : Int)) := (hAt.keeps (by kernel_rfl)).trans rfl
    obtain rfl := Option.some.inj ho
    unfold Oper.wp
    go_simp
    exact hK (.int .i64 (i : Int)) w' ⟨Rgn.consts_step hC 2 _ (fun u hu => Option.some.inj hu), hI⟩
   | 3, ho, hL, hdep, hK =>
    have E14 : bb.tmps[14]? = some (.pointer (some ⟨q, 0, none⟩)) := (hAt.keeps (by kernel_rfl)).trans rfl
    obtain rfl := Option.some.inj ho
    unfold Oper.wp
    go_simp
    exact hK (.pointer (some ⟨q, 1, none⟩)) w' ⟨Rgn.consts_step hC 3 _ (fun u hu => Option.some.inj hu), hI⟩
   | 4, ho, hL, hdep, hK =>
    have d3 : L_ 3 = true := List.all_eq_true.1 hdep 3 (List.contains_iff_mem.1 (by kernel_rfl))
    have E3 : bb.tmps[99]? = some (.pointer (some ⟨q, 1, none⟩)) := (hAt.put 3 99 d3 rfl).trans (congrArg some (hC 3 _ d3 rfl))
    obtain rfl := Option.some.inj ho
    unfold Oper.wp
    go_simp
    exact hK (.slice (some ⟨gq, 0, none⟩) L.length g3) w' ⟨Rgn.consts_step hC 4 _ (fun u hu => Option.some.inj hu), hI⟩
   | 5, ho, hL, hdep, hK =>
    have E8 : bb.tmps[8]? = some (.int .i64 (j : Int)) := (hAt.keeps (by kernel_rfl)).trans rfl
    obtain rfl := Option.some.inj ho
    unfold Oper.wp
    go_simp
    exact hK (.int .i64 (j : Int)) w' ⟨Rgn.consts_step hC 5 _ (fun u hu => Option.some.inj hu), hI⟩
   | 6, ho, hL, hdep, hK =>
    have E1 : bb.tmps[1]? = some (.int .i64 e) := (hAt.keeps (by kernel_rfl)).trans rfl
    obtain rfl := Option.some.inj ho
    unfold Oper.wp
    go_simp
    exact hK (.int .i64 e) w' ⟨Rgn.consts_step hC 6 _ (fun u hu => Option.some.inj hu), hI⟩
   | 7, ho, hL, hdep, hK =>
    have E12 : bb.tmps[12]? = some ((.int .i64 d)) := (hAt.keeps (by kernel_rfl)).trans rfl
    obtain rfl := Option.some.inj ho
    unfold Oper.wp
    go_simp
    exact hK ((.int .i64 d)) w' ⟨Rgn.consts_step hC 7 _ (fun u hu => Option.some.inj hu), hI⟩
   | 8, ho, hL, hdep, hK =>
    have E10 : bb.tmps[10]? = some ((.int .i64 b)) := (hAt.keeps (by kernel_rfl)).trans rfl
    obtain rfl := Option.some.inj ho
    unfold Oper.wp
    go_simp
    exact hK ((.int .i64 b)) w' ⟨Rgn.consts_step hC 8 _ (fun u hu => Option.some.inj hu), hI⟩
   | 9, ho, hL, hdep, hK =>
    have d6 : L_ 6 = true := List.all_eq_true.1 hdep 6 (List.contains_iff_mem.1 (by kernel_rfl))
    have E6 : bb.tmps[102]? = some (.int .i64 e) := (hAt.put 6 102 d6 rfl).trans (congrArg some (hC 6 _ d6 rfl))
    have d7 : L_ 7 = true := List.all_eq_true.1 hdep 7 (List.contains_iff_mem.1 (by kernel_rfl))
    have E7 : bb.tmps[103]? = some ((.int .i64 d)) := (hAt.put 7 103 d7 rfl).trans (congrArg some (hC 7 _ d7 rfl))
    have d8 : L_ 8 = true := List.all_eq_true.1 hdep 8 (List.contains_iff_mem.1 (by kernel_rfl))
    have E8 : bb.tmps[104]? = some ((.int .i64 b)) := (hAt.put 8 104 d8 rfl).trans (congrArg some (hC 8 _ d8 rfl))
    obtain rfl := Option.some.inj ho
    unfold Oper.wp
    go_simp
    exact hK _ _ ⟨Rgn.consts_step hC 9 _ (fun u hu => by cases hu), hI.mk9 hL hbA.size⟩
   | 10, ho, hL, hdep, hK =>
    have E1 : bb.tmps[1]? = some (.int .i64 e) := (hAt.keeps (by kernel_rfl)).trans rfl
    obtain rfl := Option.some.inj ho
    unfold Oper.wp
    go_simp
    exact hK (.int .i64 e) w' ⟨Rgn.consts_step hC 10 _ (fun u hu => Option.some.inj hu), hI⟩
   | 11, ho, hL, hdep, hK =>
    have E11 : bb.tmps[11]? = some ((.int .i64 c)) := (hAt.keeps (by kernel_rfl)).trans rfl
    obtain rfl := Option.some.inj ho
    unfold Oper.wp
    go_simp
    exact hK ((.int .i64 c)) w' ⟨Rgn.consts_step hC 11 _ (fun u hu => Option.some.inj hu), hI⟩
   | 12, ho, hL, hdep, hK =>
    have E9 : bb.tmps[9]? = some ((.int .i64 a)) := (hAt.keeps (by kernel_rfl)).trans rfl
    obtain rfl := Option.some.inj ho
    unfold Oper.wp
    go_simp
    exact hK ((.int .i64 a)) w' ⟨Rgn.consts_step hC 12 _ (fun u hu => Option.some.inj hu), hI⟩
   | 13, ho, hL, hdep, hK =>
    have d10 : L_ 10 = true := List.all_eq_true.1 hdep 10 (List.contains_iff_mem.1 (by kernel_rfl))
    have E10 : bb.tmps[106]? = some (.int .i64 e) := (hAt.put 10 106 d10 rfl).trans (congrArg some (hC 10 _ d10 rfl))
    have d11 : L_ 11 = true := List.all_eq_true.1 hdep 11 (List.contains_iff_mem.1 (by kernel_rfl))
    have E11 : bb.tmps[107]? = some ((.int .i64 c)) := (hAt.put 11 107 d11 rfl).trans (congrArg some (hC 11 _ d11 rfl))
    have d12 : L_ 12 = true := List.all_eq_true.1 hdep 12 (List.contains_iff_mem.1 (by kernel_rfl))
    have E12 : bb.tmps[108]? = some ((.int .i64 a)) := (hAt.put 12 108 d12 rfl).trans (congrArg some (hC 12 _ d12 rfl))
    obtain rfl := Option.some.inj ho
    unfold Oper.wp
    go_simp
    exact hK _ _ ⟨Rgn.consts_step hC 13 _ (fun u hu => by cases hu), hI.mk13 hL hbA.size⟩
   | 14, ho, hL, hdep, hK =>
    have d1 : L_ 1 = true := List.all_eq_true.1 hdep 1 (List.contains_iff_mem.1 (by kernel_rfl))
    have E1 : bb.tmps[97]? = some (.slice (some ⟨gq, 0, none⟩) L.length g3) := (hAt.put 1 97 d1 rfl).trans (congrArg some (hC 1 _ d1 rfl))
    have d2 : L_ 2 = true := List.all_eq_true.1 hdep 2 (List.contains_iff_mem.1 (by kernel_rfl))
    have E2 : bb.tmps[98]? = some (.int .i64 (i : Int)) := (hAt.put 2 98 d2 rfl).trans (congrArg some (hC 2 _ d2 rfl))
    have g1 : decide ((i : Int) < (L.length : Int)) = true := decide_eq_true (by have := HI.out; omega)
    have g2 : decide (i < L.length) = true := decide_eq_true HI.out
    have g3 := add_plain gq i
    have g4 := HI.out
    obtain rfl := Option.some.inj ho
    unfold Oper.wp
    go_simp
    exact hK (.pointer (some ⟨gq, i, none⟩)) w' ⟨Rgn.consts_step hC 14 _ (fun u hu => Option.some.inj hu), hI⟩
   | 15, ho, hL, hdep, hK =>
    have d14 : L_ 14 = true := List.all_eq_true.1 hdep 14 (List.contains_iff_mem.1 (by kernel_rfl))
    have E14 : bb.tmps[110]? = some (.pointer (some ⟨gq, i, none⟩)) := (hAt.put 14 110 d14 rfl).trans (congrArg some (hC 14 _ d14 rfl))
    have d9 : L_ 9 = true := List.all_eq_true.1 hdep 9 (List.contains_iff_mem.1 (by kernel_rfl))
    obtain ⟨r, hr⟩ := hI.row9 d9
    have E9 : bb.tmps[105]? = some (.slice (some ⟨r, 0, none⟩) 3 3) := (hAt.put 9 105 d9 rfl).trans (congrArg some hr)
    obtain ⟨u0, c1, f1⟩ := hI.cellP i HI.out
    obtain rfl := Option.some.inj ho
    unfold Oper.wp
    go_simp
    have z := hI.st15 d9 hL HI.out hQ7 hP2gq hgqW
    rw [hr] at z
    refine hK undef _ ⟨Rgn.consts_step hC 15 _ (fun u hu => by cases hu), ?_⟩
    show Inv10 _ _ _ _ _ _ _ _ _ _ _ _ _ _ _ _ _ _ _ _ _ _ _ _ _ (L_ 9) (L_ 13) true (L_ 17) (V 9) (V 13) _
    rw [hr]
    exact z
   | 16, ho, hL, hdep, hK =>
    have d4 : L_ 4 = true := List.all_eq_true.1 hdep 4 (List.contains_iff_mem.1 (by kernel_rfl))
    have E4 : bb.tmps[100]? = some (.slice (some ⟨gq, 0, none⟩) L.length g3) := (hAt.put 4 100 d4 rfl).trans (congrArg some (hC 4 _ d4 rfl))
    have d5 : L_ 5 = true := List.all_eq_true.1 hdep 5 (List.contains_iff_mem.1 (by kernel_rfl))
    have E5 : bb.tmps[101]? = some (.int .i64 (j : Int)) := (hAt.put 5 101 d5 rfl).trans (congrArg some (hC 5 _ d5 rfl))
    have g1 : decide ((j : Int) < (L.length : Int)) = true := decide_eq_true (by have := HJ.out; omega)
    have g2 : decide (j < L.length) = true := decide_eq_true HJ.out
    have g3 := add_plain gq j
    have g4 := HJ.out
    obtain rfl := Option.some.inj ho
    unfold Oper.wp
    go_simp
    exact hK (.pointer (some ⟨gq, j, none⟩)) w' ⟨Rgn.consts_step hC 16 _ (fun u hu => Option.some.inj hu), hI⟩
   | 17, ho, hL, hdep, hK =>
    have d16 : L_ 16 = true := List.all_eq_true.1 hdep 16 (List.contains_iff_mem.1 (by kernel_rfl))
    have E16 : bb.tmps[111]? = some (.pointer (some ⟨gq, j, none⟩)) := (hAt.put 16 111 d16 rfl).trans (congrArg some (hC 16 _ d16 rfl))
    have d13 : L_ 13 = true := List.all_eq_true.1 hdep 13 (List.contains_iff_mem.1 (by kernel_rfl))
    have d9 : L_ 9 = true := List.all_eq_true.1 hdep 9 (List.contains_iff_mem.1 (by kernel_rfl))
    have d15 : L_ 15 = true := List.all_eq_true.1 hdep 15 (List.contains_iff_mem.1 (by kernel_rfl))
    obtain ⟨r, hr⟩ := hI.row13 d13
    have E13 : bb.tmps[109]? = some (.slice (some ⟨r, 0, none⟩) 3 3) := (hAt.put 13 109 d13 rfl).trans (congrArg some hr)
    obtain ⟨u0, c1, f1⟩ := hI.cellP j HJ.out
    obtain rfl := Option.some.inj ho
    unfold Oper.wp
    go_simp
    have z := hI.st17 d9 d13 d15 hL HJ.out hQ7 hP2gq hgqW (Nat.lt_of_lt_of_le hgq6 hnA)
    rw [hr] at z
    refine hK undef _ ⟨Rgn.consts_step hC 17 _ (fun u hu => by cases hu), ?_⟩
    show Inv10 _ _ _ _ _ _ _ _ _ _ _ _ _ _ _ _ _ _ _ _ _ _ _ _ _ (L_ 9) (L_ 13) (L_ 15) true (V 9) (V 13) _
    rw [hr]
    exact z
   | n + 18, ho, hL, hdep, hK => cases ho
  rintro V w8 ⟨hC, hI⟩
  obtain ⟨hbB, hnB, rB, sB, e9, e13, krB, ksB, lrB, lsB, TB⟩ := hI.fin (by kernel_rfl)
  have hV0 := hC 0 _ (by kernel_rfl) rfl
  have hV1 := hC 1 _ (by kernel_rfl) rfl
  have hV2 := hC 2 _ (by kernel_rfl) rfl
  have hV3 := hC 3 _ (by kernel_rfl) rfl
  have hV4 := hC 4 _ (by kernel_rfl) rfl
  have hV5 := hC 5 _ (by kernel_rfl) rfl
  have hV6 := hC 6 _ (by kernel_rfl) rfl
  have hV7 := hC 7 _ (by kernel_rfl) rfl
  have hV8 := hC 8 _ (by kernel_rfl) rfl
  have hV10 := hC 10 _ (by kernel_rfl) rfl
  have hV11 := hC 11 _ (by kernel_rfl) rfl
  have hV12 := hC 12 _ (by kernel_rfl) rfl
  have hV14 := hC 14 _ (by kernel_rfl) rfl
  have hV16 := hC 16 _ (by kernel_rfl) rfl
  clear hC hI
  change Exit.then _ _ Exit.normal (Rgn.upTo _ _ V 18) w8
  simp only [Rgn.upTo, Rgn.dst, hV0, hV1, hV2, hV3, hV4, hV5, hV6, hV7, hV8, hV10, hV11, hV12, hV14, hV16, e9, e13, Act.put, List.setIfInBounds_toArray, List.set_cons_zero, List.set_cons_succ, List.getElem?_toArray, List.getElem?_cons_zero, List.getElem?_cons_succ, Option.bind_some, Option.bind_none]
  clear e9 e13 hV0 hV1 hV2 hV3 hV4 hV5 hV6 hV7 hV8 hV10 hV11 hV12 hV14 hV16
  have b13 := TB.bq
  have b14 := TB.bp
  have u0 := (blk_cell b13 0).trans rfl
  have u1 := (blk_cell b13 1).trans rfl
  have u2 := (blk_cell b14 0).trans rfl
  have u3 := (blk_cell b14 1).trans rfl
  have TB2 := TB.swap.alloc (.cells #[.slice G0 l.length g0, .slice (some ⟨gp, 0, none⟩) L.length g1, .slice G2 l.length g2, .slice (some ⟨gq, 0, none⟩) L.length g3] 30)
  have hbB2 := below_alloc (below_step HB5.out hbB) (.cells #[.slice G0 l.length g0, .slice (some ⟨gp, 0, none⟩) L.length g1, .slice G2 l.length g2, .slice (some ⟨gq, 0, none⟩) L.length g3] 30)
  go_wp2_with fail
  go_ret2
  have z5 := HB5.out.size
  refine ⟨w8.heap.size, G0, g0, gp, g1, G2, g2, gq, g3, p, q, okR, okP2, okT, fun k => (okQ k ∨ k = rB) ∨ k = sB, rfl, new_at rfl, ⟨Kd.R_lower TB2.r z5, Kd.S_lower TB2.s z5, Kd.R_lower TB2.t z5, Kd.S_lower TB2.u z5, TB2.bp, TB2.bq⟩, ?_, dTR, ?_, ?_, ?_, ?_, ?_, ?_, ?_, ?_, by have := hbB.size; omega, hbB2⟩
  ·intro k hk h; rw [hokP2] at hk; exact hk.elim (fun hk => hk.elim (fun hk => dPR k hk h) (fun hk => by have := hRs k h; omega)) (fun hk => by have := hRs k h; omega)
  ·intro k h hk; rw [hokP2] at hk; exact hk.elim (fun hk => hk.elim (fun hk => dTP k h hk) (fun hk => by have := hTs k h; omega)) (fun hk => by have := hTs k h; omega)
  ·intro k hk h; exact hk.elim (fun hk => hk.elim (fun hk => dQR k hk h) (fun hk => by have := hRs k h; omega)) (fun hk => by have := hRs k h; omega)
  ·intro k hk h; rw [hokP2] at h; exact hk.elim (fun hk => hk.elim (fun hk => h.elim (fun h => h.elim (fun h => dQP k hk h) (fun h => by have := hQs k hk; omega)) (fun h => by have := hQs k hk; omega)) (fun hk => h.elim (fun h => h.elim (fun h => by have := hPs k h; omega) (fun h => by omega)) (fun h => by omega))) (fun hk => h.elim (fun h => h.elim (fun h => by have := hPs k h; omega) (fun h => by omega)) (fun h => by omega))
  ·intro k hk h; exact hk.elim (fun hk => hk.elim (fun hk => dQT k hk h) (fun hk => by have := hTs k h; omega)) (fun hk => by have := hTs k h; omega)
  ·intro k h; have := hRs k h; omega
  ·intro k h; rw [hokP2] at h; exact h.elim (fun h => h.elim (fun h => by have := hPs k h; omega) (fun h => by omega)) (fun h => by omega)
  ·intro k h; have := hTs k h; omega
  ·intro k h; exact h.elim (fun h => h.elim (fun h => by have := hQs k h; omega) (fun h => by omega)) (fun h => by omega)
 case step =>
  intro i_ o ho L_ V b w' hL hdep hAt hI K hK
  have E2 : b.tmps[2]? = some (.pointer (some ⟨w.heap.size, 0, none⟩)) := (hAt.keeps (by kernel_rfl)).trans rfl
  obtain ⟨p, q, m, hB, hm, h0, h2, h1, h3, h4, h5, hpq, o1, o2, o3⟩ := hI
  have q0 := (blk_cell (blk_below B5.out hB) 0).trans rfl
  have q1 := (blk_cell (blk_below B5.out hB) 1).trans rfl
  match i_, ho, hL, hdep, hK with
  | 0, ho, hL, hdep, hK =>
   obtain rfl := Option.some.inj ho
   unfold Oper.wp
   go_simp
   exact hK (.agg #[.slice A0 l.length c0, .slice (some ad) L.length c1]) w' ⟨p, q, m, hB, hm, fun _ => rfl, h2, h1, h3, h4, h5, hpq, o1, o2, o3⟩
  | 2, ho, hL, hdep, hK =>
   obtain rfl := Option.some.inj ho
   unfold Oper.wp
   go_simp
   exact hK (.agg #[.slice A0 l.length c0, .slice (some ad) L.length c1]) w' ⟨p, q, m, hB, hm, h0, fun _ => rfl, h1, h3, h4, h5, hpq, o1, o2, o3⟩
  | 1, ho, hL, hdep, hK =>
   have dd : L_ 0 = true := by simpa using (show ([0] : List Nat).all L_ = true from hdep)
   have E : b.tmps[76]? = some (V 0) := hAt.put 0 76 dd rfl
   rw [h0 dd] at E
   obtain rfl := Option.some.inj ho
   unfold Oper.wp
   go_simp
   refine (impl_cloneWeb.calls k A0 c0 l (some ad) c1 L l L _ (Kd.C_below HR0.out (below_step HB5.out hB)) HC0.out (Kd.C_below HR1.out (below_step HB5.out hB)) HC1.out H2.out).mono ?_
   rintro x w'' ⟨v0, v1, rfl, ho0, ho1, hb⟩
   have n3 : ∀ {X : Prop}, L_ 3 = true → X := fun h => absurd (o1 h) (by rw [hL]; decide)
   exact hK (.agg #[v0, v1]) w'' ⟨p, q, w''.heap.size, below_step hB hb, Nat.le_refl _, h0, h2, fun _ => ⟨v0, v1, rfl, Kd.R_lower (Kd.R_mono (Kd.R_bound ho0) (fun k hk => hk.2.2.1)) hB.size, Kd.S_lower (Kd.S_mono (Kd.S_bound ho1) (fun k hk => ⟨hk.1, hk.2.2.1⟩)) hB.size⟩, fun h => n3 h, fun h => ⟨(h4 h).1, (h4 h).2.1, Nat.lt_of_lt_of_le (h4 h).2.2.1 hb.size, fun z => blk_below ((h4 h).2.2.2.1 z) hb, fun z => n3 (o2 z).2⟩, fun h => ⟨(h5 h).1, (h5 h).2.1, Nat.lt_of_lt_of_le (h5 h).2.2.1 hb.size, fun z => blk_below ((h5 h).2.2.2.1 z) hb, fun z v0 v1 hv => blk_below ((h5 h).2.2.2.2 z v0 v1 hv) hb⟩, hpq, fun _ => rfl, fun z => n3 (o2 z).2, fun z => n3 (o3 z).2⟩
  | 3, ho, hL, hdep, hK =>
   have dd : L_ 2 = true ∧ L_ 1 = true := by simpa using (show ([2, 1] : List Nat).all L_ = true from hdep)
   have E : b.tmps[78]? = some (V 2) := hAt.put 2 78 dd.1 rfl
   rw [h2 dd.1] at E
   obtain rfl := Option.some.inj ho
   unfold Oper.wp
   go_simp
   refine (impl_cloneWeb.calls k A0 c0 l (some ad) c1 L l L _ (Kd.C_below HR0.out (below_step HB5.out hB)) HC0.out (Kd.C_below HR1.out (below_step HB5.out hB)) HC1.out H2.out).mono ?_
   rintro x w'' ⟨v0, v1, rfl, ho0, ho1, hb⟩
   have n6 : ∀ {X : Prop}, L_ 6 = true → X := fun h => absurd (o2 h).2 (by rw [hL]; decide)
   have n7 : ∀ {X : Prop}, L_ 7 = true → X := fun h => absurd (o3 h).2 (by rw [hL]; decide)
   exact hK (.agg #[v0, v1]) w'' ⟨p, q, m, below_step hB hb, Nat.le_trans hm hb.size, h0, h2, fun h => (h1 h).imp fun v0 h => h.imp fun v1 h => ⟨h.1, Kd.R_below h.2.1 hb, Kd.S_below h.2.2 hb⟩, fun _ => ⟨v0, v1, rfl, Kd.R_lower (Kd.R_mono (Kd.R_bound ho0) (fun k hk => Nat.le_trans hm hk.2.1)) hB.size, Kd.S_lower (Kd.S_mono (Kd.S_bound ho1) (fun k hk => ⟨hk.1, Nat.le_trans hm hk.2.1⟩)) hB.size⟩, fun h => ⟨(h4 h).1, (h4 h).2.1, Nat.lt_of_lt_of_le (h4 h).2.2.1 hb.size, fun z => blk_below ((h4 h).2.2.2.1 z) hb, fun z => n6 z⟩, fun h => ⟨(h5 h).1, (h5 h).2.1, Nat.lt_of_lt_of_le (h5 h).2.2.1 hb.size, fun z => blk_below ((h5 h).2.2.2.1 z) hb, fun z => n7 z⟩, hpq, fun _ => dd.2, fun z => n6 z, fun z => n7 z⟩
  | 4, ho, hL, hdep, hK =>
   obtain rfl := Option.some.inj ho
   unfold Oper.wp
   go_simp
   exact hK (.pointer (some ⟨w'.heap.size, 0, none⟩)) (w'.alloc (.cells #[.slice none 0 0, .slice none 0 0] 30)) ⟨w'.heap.size, q, m, below_alloc hB _, by simp; omega, h0, h2, fun h => (h1 h).imp fun v0 h => h.imp fun v1 h => ⟨h.1, Kd.R_alloc h.2.1 _, Kd.S_alloc h.2.2 _⟩, fun h => (h3 h).imp fun v0 h => h.imp fun v1 h => ⟨h.1, Kd.R_alloc h.2.1 _, Kd.S_alloc h.2.2 _⟩, fun _ => ⟨rfl, hB.size, by simp, fun _ => new_at rfl, fun z => absurd (o2 z).1 (by rw [hL]; decide)⟩, fun h => ⟨(h5 h).1, (h5 h).2.1, by have := (h5 h).2.2.1; simp; omega, fun z => blk_alloc ((h5 h).2.2.2.1 z) _, fun z v0 v1 hv => blk_alloc ((h5 h).2.2.2.2 z v0 v1 hv) _⟩, fun _ h => by have := (h5 h).2.2.1; omega, o1, fun z => ⟨rfl, (o2 z).2⟩, o3⟩
  | 5, ho, hL, hdep, hK =>
   obtain rfl := Option.some.inj ho
   unfold Oper.wp
   go_simp
   exact hK (.pointer (some ⟨w'.heap.size, 0, none⟩)) (w'.alloc (.cells #[.slice none 0 0, .slice none 0 0] 30)) ⟨p, w'.heap.size, m, below_alloc hB _, by simp; omega, h0, h2, fun h => (h1 h).imp fun v0 h => h.imp fun v1 h => ⟨h.1, Kd.R_alloc h.2.1 _, Kd.S_alloc h.2.2 _⟩, fun h => (h3 h).imp fun v0 h => h.imp fun v1 h => ⟨h.1, Kd.R_alloc h.2.1 _, Kd.S_alloc h.2.2 _⟩, fun h => ⟨(h4 h).1, (h4 h).2.1, by have := (h4 h).2.2.1; simp; omega, fun z => blk_alloc ((h4 h).2.2.2.1 z) _, fun z v0 v1 hv => blk_alloc ((h4 h).2.2.2.2 z v0 v1 hv) _⟩, fun _ => ⟨rfl, hB.size, by simp, fun _ => new_at rfl, fun z => absurd (o3 z).1 (by rw [hL]; decide)⟩, fun h _ => by have := (h4 h).2.2.1; omega, o1, o2, fun z => ⟨rfl, (o3 z).2⟩⟩
  | 6, ho, hL, hdep, hK =>
   have dd := hdep
   rw [show deps _ 6 = [4, 1, 3, 0, 1, 4, 5] from by kernel_rfl] at dd
   simp only [List.all_cons, List.all_nil, Bool.and_eq_true] at dd
   obtain ⟨d4, d1, d3, d0, _, _, d5, _⟩ := dd
   have EP : b.tmps[13]? = some (V 4) := hAt.put 4 13 d4 rfl
   have EC : b.tmps[77]? = some (V 1) := hAt.put 1 77 d1 rfl
   obtain ⟨e1, e2, e3, e4, _⟩ := h4 d4
   obtain ⟨v0, v1, gv, gr, gs⟩ := h1 d1
   obtain ⟨G0, g0, rfl⟩ := Kd.R_slice gr
   obtain ⟨G1, g1, rfl⟩ := Kd.S_slice gs
   rw [e1] at EP
   rw [gv] at EC
   have z := e4 hL
   have f0 := blk_frozen z 0
   have f1 := blk_frozen z 1
   have y0 := (blk_cell z 0).trans rfl
   have y1 := (blk_cell z 1).trans rfl
   have NE := hpq d4 d5
   obtain rfl := Option.some.inj ho
   unfold Oper.wp
   go_simp
   refine hK undef ((w'.setCell ⟨p, 0, none⟩ (.slice G0 l.length g0)).setCell ⟨p, 1, none⟩ (.slice G1 L.length g1)) ⟨p, q, m, below_set (below_set hB e2) e2, by simpa using hm, h0, h2, fun h => ?_, fun h => ?_, ?_, ?_, hpq, o1, fun _ => ⟨d4, d3⟩, o3⟩
   ·exact (h1 h).imp fun v0 h => h.imp fun v1 h => ⟨h.1, Kd.R_mono (Kd.R_far (p := ⟨p, 1, none⟩) (Kd.R_far (p := ⟨p, 0, none⟩) (Kd.R_types h.2.1 z (by decide)) (fun _ hk => hk.2) _) (fun _ hk => hk.2) _) (fun _ hk => hk.1), Kd.S_mono (Kd.S_far (p := ⟨p, 1, none⟩) (Kd.S_far (p := ⟨p, 0, none⟩) (Kd.S_types h.2.2 z (by decide)) (fun _ hk => hk.2) _) (fun _ hk => hk.2) _) (fun _ hk => hk.1)⟩
   ·exact (h3 h).imp fun v0 h => h.imp fun v1 h => ⟨h.1, Kd.R_mono (Kd.R_far (p := ⟨p, 1, none⟩) (Kd.R_far (p := ⟨p, 0, none⟩) (Kd.R_types h.2.1 z (by decide)) (fun _ hk => hk.2) _) (fun _ hk => hk.2) _) (fun _ hk => hk.1), Kd.S_mono (Kd.S_far (p := ⟨p, 1, none⟩) (Kd.S_far (p := ⟨p, 0, none⟩) (Kd.S_types h.2.2 z (by decide)) (fun _ hk => hk.2) _) (fun _ hk => hk.2) _) (fun _ hk => hk.1)⟩
   ·exact fun _ => ⟨e1, e2, by simp; exact e3, (fun y => by cases y), fun _ v0 v1 hv => by have hv := gv.symm.trans hv; simp only [Value.agg.injEq, Array.mk.injEq, List.cons.injEq, and_true] at hv; obtain ⟨rfl, rfl⟩ := hv; exact blk_put (blk_put z 0 _ rfl) 1 _ rfl⟩
   ·exact fun h => ⟨(h5 h).1, (h5 h).2.1, by simp; exact (h5 h).2.2.1, fun y => blk_far (blk_far ((h5 h).2.2.2.1 y) (p := ⟨p, 0, none⟩) (NE.symm) _) (p := ⟨p, 1, none⟩) (NE.symm) _, fun y v0 v1 hv => blk_far (blk_far ((h5 h).2.2.2.2 y v0 v1 hv) (p := ⟨p, 0, none⟩) (NE.symm) _) (p := ⟨p, 1, none⟩) (NE.symm) _⟩
  | 7, ho, hL, hdep, hK =>
   have dd := hdep
   rw [show deps _ 7 = [5, 3, 6, 0, 1, 2, 3, 4, 5, 6] from by kernel_rfl] at dd
   simp only [List.all_cons, List.all_nil, Bool.and_eq_true] at dd
   obtain ⟨d5, d3, d6, d0, d1, d2, _, d4, _, _, _⟩ := dd
   have EP : b.tmps[14]? = some (V 5) := hAt.put 5 14 d5 rfl
   have EC : b.tmps[79]? = some (V 3) := hAt.put 3 79 d3 rfl
   obtain ⟨e1, e2, e3, e4, _⟩ := h5 d5
   obtain ⟨v0, v1, gv, gr, gs⟩ := h3 d3
   obtain ⟨G0, g0, rfl⟩ := Kd.R_slice gr
   obtain ⟨G1, g1, rfl⟩ := Kd.S_slice gs
   rw [e1] at EP
   rw [gv] at EC
   have z := e4 hL
   have f0 := blk_frozen z 0
   have f1 := blk_frozen z 1
   have y0 := (blk_cell z 0).trans rfl
   have y1 := (blk_cell z 1).trans rfl
   have NE := hpq d4 d5
   obtain rfl := Option.some.inj ho
   unfold Oper.wp
   go_simp
   refine hK undef ((w'.setCell ⟨q, 0, none⟩ (.slice G0 l.length g0)).setCell ⟨q, 1, none⟩ (.slice G1 L.length g1)) ⟨p, q, m, below_set (below_set hB e2) e2, by simpa using hm, h0, h2, fun h => ?_, fun h => ?_, ?_, ?_, hpq, o1, o2, fun _ => ⟨d5, d3⟩⟩
   ·exact (h1 h).imp fun v0 h => h.imp fun v1 h => ⟨h.1, Kd.R_mono (Kd.R_far (p := ⟨q, 1, none⟩) (Kd.R_far (p := ⟨q, 0, none⟩) (Kd.R_types h.2.1 z (by decide)) (fun _ hk => hk.2) _) (fun _ hk => hk.2) _) (fun _ hk => hk.1), Kd.S_mono (Kd.S_far (p := ⟨q, 1, none⟩) (Kd.S_far (p := ⟨q, 0, none⟩) (Kd.S_types h.2.2 z (by decide)) (fun _ hk => hk.2) _) (fun _ hk => hk.2) _) (fun _ hk => hk.1)⟩
   ·exact (h3 h).imp fun v0 h => h.imp fun v1 h => ⟨h.1, Kd.R_mono (Kd.R_far (p := ⟨q, 1, none⟩) (Kd.R_far (p := ⟨q, 0, none⟩) (Kd.R_types h.2.1 z (by decide)) (fun _ hk => hk.2) _) (fun _ hk => hk.2) _) (fun _ hk => hk.1), Kd.S_mono (Kd.S_far (p := ⟨q, 1, none⟩) (Kd.S_far (p := ⟨q, 0, none⟩) (Kd.S_types h.2.2 z (by decide)) (fun _ hk => hk.2) _) (fun _ hk => hk.2) _) (fun _ hk => hk.1)⟩
   ·exact fun h => ⟨(h4 h).1, (h4 h).2.1, by simp; exact (h4 h).2.2.1, fun y => blk_far (blk_far ((h4 h).2.2.2.1 y) (p := ⟨q, 0, none⟩) (NE) _) (p := ⟨q, 1, none⟩) (NE) _, fun y v0 v1 hv => blk_far (blk_far ((h4 h).2.2.2.2 y v0 v1 hv) (p := ⟨q, 0, none⟩) (NE) _) (p := ⟨q, 1, none⟩) (NE) _⟩
   ·exact fun _ => ⟨e1, e2, by simp; exact e3, (fun y => by cases y), fun _ v0 v1 hv => by have hv := gv.symm.trans hv; simp only [Value.agg.injEq, Array.mk.injEq, List.cons.injEq, and_true] at hv; obtain ⟨rfl, rfl⟩ := hv; exact blk_put (blk_put z 0 _ rfl) 1 _ rfl⟩
  | n + 8, ho, hL, hdep, hK => cases ho
theorem own_none {w : World} {base : Nat} {e : TypeId} {v : Value} (h : w.ownsInts base e .i64 v []) : ∃ A c, v = .slice A 0 c := by
 have hR : Kd.R (Kd.int .i64) e w base (fun k => base ≤ k) v [] := R_of_own h.1
 exact Kd.R_slice hR
set_option maxHeartbeats 8000000 in
set_option maxRecDepth 100000 in
theorem three_two (A0 : Option Addr) (c0 : Nat) (l : List Int) (A1 : Option Addr) (c1 : Nat) (L : List (List Int)) (e : Int) (w : World) (hr0 : Kd.C (Kd.int .i64) w A0 l.length l) (hc0 : l.length ≤ c0) (hr1 : Kd.C (Kd.slice 2 (Kd.int .i64)) w A1 L.length L) (hc1 : L.length ≤ c1) (h1 : impl_IsWeb.f l L = some false) :
  Calls Try.prog 13 #[.agg #[.slice A0 l.length c0, .slice A1 L.length c1], .int .i64 e] w fun x w' => x = .returned (.tuple #[.slice none 0 0, .int .i64 1]) ∧ Below w.heap.size w w' := by
 have hu28 := Try.underlying30
 have HR0 := Aside0.mk hr0
 have HC0 := Aside0.mk hc0
 have HR1 := Aside0.mk hr1
 have HC1 := Aside0.mk hc1
 have H1 := Aside0.mk h1
 clear hr0 hc0 hr1 hc1 h1
 go_enter Try.func13, Try.ntmps13
 go_wp2_with fail
 have hB : Below w.heap.size w (w.alloc (.cells #[.slice A0 l.length c0, .slice A1 L.length c1] 30)) := below_alloc (Below.refl _ _) _
 refine (impl_IsWeb.calls A0 c0 l A1 c1 L false _ (Kd.C_below HR0.out hB) HC0.out (Kd.C_below HR1.out hB) HC1.out H1.out).mono ?_
 rintro x w1 ⟨rfl, hb1⟩
 have HB := Aside0.mk (below_step hB hb1)
 clear hB hb1
 go_wp2_with fail
 go_ret2
 exact ⟨rfl, HB.out⟩
set_option maxHeartbeats 8000000 in
set_option maxRecDepth 100000 in
theorem three_nil (A0 : Option Addr) (c0 : Nat) (l : List Int) (A1 : Option Addr) (c1 : Nat) (L : List (List Int)) (e : Int) (w : World) (hr0 : Kd.C (Kd.int .i64) w A0 l.length l) (hc0 : l.length ≤ c0) (hr1 : Kd.C (Kd.slice 2 (Kd.int .i64)) w A1 L.length L) (hc1 : L.length ≤ c1) (h1 : impl_IsWeb.f l L = some true) (hweb : isWebC l L = true) (hwf : wfW l L = true) (he : (Lit.int .i64 e).wf = true) (hE : ends (inc l L) e = []) :
  Calls Try.prog 13 #[.agg #[.slice A0 l.length c0, .slice A1 L.length c1], .int .i64 e] w fun x w' => x = .returned (.tuple #[.slice none 0 0, .int .i64 5]) ∧ Below w.heap.size w w' := by
 have hu28 := Try.underlying30
 have HR0 := Aside0.mk hr0
 have HC0 := Aside0.mk hc0
 have HR1 := Aside0.mk hr1
 have HC1 := Aside0.mk hc1
 have H1 := Aside0.mk h1
 have HE := Aside0.mk hE
 obtain ⟨h8, h3, htw, _⟩ := web_of hweb
 have H8 := Aside0.mk h8
 have H3 := Aside0.mk h3
 have HWF := Aside0.mk (fun p hp => List.all_eq_true.1 hwf p hp)
 have hkey := keyOf_int_mk Try.underlying2 he
 clear h8 h3 htw hweb hwf hr0 hc0 hr1 hc1 h1 hE
 go_enter Try.func13, Try.ntmps13
 go_wp2_with fail
 have b0 : (w.alloc (.cells #[.slice A0 l.length c0, .slice A1 L.length c1] 30)).heap[w.heap.size]? = some (.cells #[.slice A0 l.length c0, .slice A1 L.length c1] 30 (0, 0)) := new_at rfl
 have hB : Below w.heap.size w (w.alloc (.cells #[.slice A0 l.length c0, .slice A1 L.length c1] 30)) := below_alloc (Below.refl _ _) _
 generalize (w.alloc (.cells #[.slice A0 l.length c0, .slice A1 L.length c1] 30)) = W0 at b0 hB ⊢
 refine (impl_IsWeb.calls A0 c0 l A1 c1 L true _ (Kd.C_below HR0.out hB) HC0.out (Kd.C_below HR1.out hB) HC1.out H1.out).mono ?_
 rintro x w1 ⟨rfl, hb1⟩
 have b0 := blk_below b0 hb1
 have hB := below_step hB hb1
 have B0 := Aside0.mk b0
 have HB := Aside0.mk hB
 clear b0 hB hb1
 go_wp2_with fail
 refine (stands_walk l L w.heap.size A0 c0 A1 c1 H8.out H3.out HWF.out _ B0.out (Kd.C_below HR0.out HB.out) (Kd.C_below HR1.out HB.out)).mono ?_
 rintro x w3 ⟨rfl, hgr, hb3⟩
 obtain ⟨Bm, hBm⟩ : ∃ B, B = w1.heap.size := ⟨_, rfl⟩
 rw [← hBm] at hgr ⊢
 have GR := Aside0.mk hgr
 have b0 := blk_below B0.out hb3
 have q0 := (blk_cell b0 0).trans rfl
 have q1 := (blk_cell b0 1).trans rfl
 have B0 := Aside0.mk b0
 have HB := Aside0.mk (below_step HB.out hb3)
 have HIL := Aside0.mk (show (inc l L).length ≤ 100 from by rw [inc_len H3.out]; have := H8.out; omega)
 clear hgr b0 hb3 hBm
 go_wp2_with (first
  | (at_lookup; refine wpList_lookup_groups _ rfl _ _ 76 rfl 2 72 3 .i64 webKey Try.underlying76 (webZero _) (Bm + 1) Bm (inc l L).length _ rfl GR.out (by have := HIL.out; unfold maxLen; omega) _ _ rfl hkey ?_; intro v zs hat hoi hzl hback; have hz := GTo_zs (Nat.le_refl _) hoi hat; rw [List.take_length, HE.out] at hz; rw [hz] at hoi; obtain ⟨Az, cz, rfl⟩ := own_none hoi; clear hat hoi hzl hback hz)
  | go_in)
 go_quiet (fail)
 go_wp2_with fail
 go_ret2
 exact ⟨rfl, below_step HB.out (pw_below_drewN (Below.refl w3.heap.size w3) _)⟩
set_option maxHeartbeats 8000000 in
set_option maxRecDepth 100000 in
theorem three_leg (A0 : Option Addr) (c0 : Nat) (l : List Int) (A1 : Option Addr) (c1 : Nat) (L : List (List Int)) (e : Int) (x y : Nat) (w : World) (hr0 : Kd.C (Kd.int .i64) w A0 l.length l) (hc0 : l.length ≤ c0) (hr1 : Kd.C (Kd.slice 2 (Kd.int .i64)) w A1 L.length L) (hc1 : L.length ≤ c1) (h1 : impl_IsWeb.f l L = some true) (hweb : isWebC l L = true) (hwf : wfW l L = true) (he : (Lit.int .i64 e).wf = true) (hE : ends (inc l L) e = [x, y]) (hxy : x < l.length) :
  Calls Try.prog 13 #[.agg #[.slice A0 l.length c0, .slice A1 L.length c1], .int .i64 e] w fun x w' => x = .returned (.tuple #[.slice none 0 0, .int .i64 5]) ∧ Below w.heap.size w w' := by
 have hu28 := Try.underlying30
 have HR0 := Aside0.mk hr0
 have HC0 := Aside0.mk hc0
 have HR1 := Aside0.mk hr1
 have HC1 := Aside0.mk hc1
 have H1 := Aside0.mk h1
 have HE := Aside0.mk hE
 obtain ⟨h8, h3, htw, _⟩ := web_of hweb
 have H8 := Aside0.mk h8
 have H3 := Aside0.mk h3
 have HWF := Aside0.mk (fun p hp => List.all_eq_true.1 hwf p hp)
 have hkey := keyOf_int_mk Try.underlying2 he
 clear h8 h3 htw hweb hwf hr0 hc0 hr1 hc1 h1 hE
 have g0 : decide (x < l.length) = true := decide_eq_true hxy
 have g4 : decide ((x : Int) < (l.length : Int)) = true := decide_eq_true (by omega)
 clear hxy
 go_enter Try.func13, Try.ntmps13
 go_wp2_with fail
 have b0 : (w.alloc (.cells #[.slice A0 l.length c0, .slice A1 L.length c1] 30)).heap[w.heap.size]? = some (.cells #[.slice A0 l.length c0, .slice A1 L.length c1] 30 (0, 0)) := new_at rfl
 have hB : Below w.heap.size w (w.alloc (.cells #[.slice A0 l.length c0, .slice A1 L.length c1] 30)) := below_alloc (Below.refl _ _) _
 generalize (w.alloc (.cells #[.slice A0 l.length c0, .slice A1 L.length c1] 30)) = W0 at b0 hB ⊢
 refine (impl_IsWeb.calls A0 c0 l A1 c1 L true _ (Kd.C_below HR0.out hB) HC0.out (Kd.C_below HR1.out hB) HC1.out H1.out).mono ?_
 rintro x w1 ⟨rfl, hb1⟩
 have b0 := blk_below b0 hb1
 have hB := below_step hB hb1
 have B0 := Aside0.mk b0
 have HB := Aside0.mk hB
 clear b0 hB hb1
 go_wp2_with fail
 refine (stands_walk l L w.heap.size A0 c0 A1 c1 H8.out H3.out HWF.out _ B0.out (Kd.C_below HR0.out HB.out) (Kd.C_below HR1.out HB.out)).mono ?_
 rintro x w3 ⟨rfl, hgr, hb3⟩
 obtain ⟨Bm, hBm⟩ : ∃ B, B = w1.heap.size := ⟨_, rfl⟩
 rw [← hBm] at hgr ⊢
 have GR := Aside0.mk hgr
 have b0 := blk_below B0.out hb3
 have q0 := (blk_cell b0 0).trans rfl
 have q1 := (blk_cell b0 1).trans rfl
 have B0 := Aside0.mk b0
 have HB := Aside0.mk (below_step HB.out hb3)
 have HIL := Aside0.mk (show (inc l L).length ≤ 100 from by rw [inc_len H3.out]; have := H8.out; omega)
 clear hgr b0 hb3 hBm
 go_wp2_with (first
  | (at_lookup; refine wpList_lookup_groups _ rfl _ _ 76 rfl 2 72 3 .i64 webKey Try.underlying76 (webZero _) (Bm + 1) Bm (inc l L).length _ rfl GR.out (by have := HIL.out; unfold maxLen; omega) _ _ rfl hkey ?_; intro v zs hat hoi hzl hback; have hz := GTo_zs (Nat.le_refl _) hoi hat; rw [List.take_length, HE.out] at hz; rw [hz] at hoi; obtain ⟨g, cap, rfl, hgb, hgl, x0, x1⟩ := own_two hoi; clear hat hoi hzl hback hz)
  | go_in)
 go_quiet (fail)
 go_wp2_with fail
 go_ret2
 exact ⟨rfl, below_step HB.out (pw_below_drewN (Below.refl w3.heap.size w3) _)⟩
set_option maxHeartbeats 8000000 in
set_option maxRecDepth 100000 in
theorem three_same (A0 : Option Addr) (c0 : Nat) (l : List Int) (A1 : Option Addr) (c1 : Nat) (L : List (List Int)) (e : Int) (x : Nat) (w : World) (hr0 : Kd.C (Kd.int .i64) w A0 l.length l) (hc0 : l.length ≤ c0) (hr1 : Kd.C (Kd.slice 2 (Kd.int .i64)) w A1 L.length L) (hc1 : L.length ≤ c1) (h1 : impl_IsWeb.f l L = some true) (hweb : isWebC l L = true) (hwf : wfW l L = true) (he : (Lit.int .i64 e).wf = true) (hE : ends (inc l L) e = [x, x]) (hxy : l.length ≤ x) :
  Calls Try.prog 13 #[.agg #[.slice A0 l.length c0, .slice A1 L.length c1], .int .i64 e] w fun x w' => x = .returned (.tuple #[.slice none 0 0, .int .i64 5]) ∧ Below w.heap.size w w' := by
 have hu28 := Try.underlying30
 have HR0 := Aside0.mk hr0
 have HC0 := Aside0.mk hc0
 have HR1 := Aside0.mk hr1
 have HC1 := Aside0.mk hc1
 have H1 := Aside0.mk h1
 have HE := Aside0.mk hE
 obtain ⟨h8, h3, htw, _⟩ := web_of hweb
 have H8 := Aside0.mk h8
 have H3 := Aside0.mk h3
 have HWF := Aside0.mk (fun p hp => List.all_eq_true.1 hwf p hp)
 have hkey := keyOf_int_mk Try.underlying2 he
 clear h8 h3 htw hweb hwf hr0 hc0 hr1 hc1 h1 hE
 have g0 : decide (x < l.length) = false := decide_eq_false (by omega)
 have g4 : decide ((x : Int) < (l.length : Int)) = false := decide_eq_false (by omega)
 clear hxy
 go_enter Try.func13, Try.ntmps13
 go_wp2_with fail
 have b0 : (w.alloc (.cells #[.slice A0 l.length c0, .slice A1 L.length c1] 30)).heap[w.heap.size]? = some (.cells #[.slice A0 l.length c0, .slice A1 L.length c1] 30 (0, 0)) := new_at rfl
 have hB : Below w.heap.size w (w.alloc (.cells #[.slice A0 l.length c0, .slice A1 L.length c1] 30)) := below_alloc (Below.refl _ _) _
 generalize (w.alloc (.cells #[.slice A0 l.length c0, .slice A1 L.length c1] 30)) = W0 at b0 hB ⊢
 refine (impl_IsWeb.calls A0 c0 l A1 c1 L true _ (Kd.C_below HR0.out hB) HC0.out (Kd.C_below HR1.out hB) HC1.out H1.out).mono ?_
 rintro x w1 ⟨rfl, hb1⟩
 have b0 := blk_below b0 hb1
 have hB := below_step hB hb1
 have B0 := Aside0.mk b0
 have HB := Aside0.mk hB
 clear b0 hB hb1
 go_wp2_with fail
 refine (stands_walk l L w.heap.size A0 c0 A1 c1 H8.out H3.out HWF.out _ B0.out (Kd.C_below HR0.out HB.out) (Kd.C_below HR1.out HB.out)).mono ?_
 rintro x w3 ⟨rfl, hgr, hb3⟩
 obtain ⟨Bm, hBm⟩ : ∃ B, B = w1.heap.size := ⟨_, rfl⟩
 rw [← hBm] at hgr ⊢
 have GR := Aside0.mk hgr
 have b0 := blk_below B0.out hb3
 have q0 := (blk_cell b0 0).trans rfl
 have q1 := (blk_cell b0 1).trans rfl
 have B0 := Aside0.mk b0
 have HB := Aside0.mk (below_step HB.out hb3)
 have HIL := Aside0.mk (show (inc l L).length ≤ 100 from by rw [inc_len H3.out]; have := H8.out; omega)
 clear hgr b0 hb3 hBm
 go_wp2_with (first
  | (at_lookup; refine wpList_lookup_groups _ rfl _ _ 76 rfl 2 72 3 .i64 webKey Try.underlying76 (webZero _) (Bm + 1) Bm (inc l L).length _ rfl GR.out (by have := HIL.out; unfold maxLen; omega) _ _ rfl hkey ?_; intro v zs hat hoi hzl hback; have hz := GTo_zs (Nat.le_refl _) hoi hat; rw [List.take_length, HE.out] at hz; rw [hz] at hoi; obtain ⟨g, cap, rfl, hgb, hgl, x0, x1⟩ := own_two hoi; clear hat hoi hzl hback hz)
  | go_in)
 go_quiet (fail)
 go_wp2_with fail
 go_ret2
 exact ⟨rfl, below_step HB.out (pw_below_drewN (Below.refl w3.heap.size w3) _)⟩
end Go.Proofs.Ytmeggliapebkgaa.F
end
section
namespace Go.Proofs.Ytmeggliapebkgaa.F
open Go.RowKit Go.Proofs.YtmeggliapebkgaaW.PrintWords Go.Proofs.YtmeggliapebkgaaW.PrintLast Go.Proofs.YtmeggliapebkgaaW.PrintMore
attribute [local go_sem] max2_int min2_int max_two min_two max_three min_three max_four min_four   
set_option linter.unusedVariables false
set_option linter.unusedSimpArgs false
open Go.Proofs.Ytmeggliapebkgaa.Mem Go.Proofs.Ytmeggliapebkgaa.Pure Go.Proofs.YtmeggliapebkgaaW.PrintLast Go.Proofs.Ytmeggliapebkgaa.Rgn
def atTo (fv : Nat → Int) (n : Nat) : List Nat := (List.range n).filter fun k => decide (0 ≤ fv k)
theorem atTo_succ (fv : Nat → Int) (n : Nat) : atTo fv (n + 1) = if 0 ≤ fv n then atTo fv n ++ [n] else atTo fv n := by
 unfold atTo
 rw [List.range_succ, List.filter_append]
 by_cases h : 0 ≤ fv n
 ·rw [if_pos h, List.filter_cons_of_pos (by simpa using h), List.filter_nil]
 rw [if_neg h, List.filter_cons_of_neg (by simpa using h), List.filter_nil, List.append_nil]
theorem atTo_le (fv : Nat → Int) : ∀ n, (atTo fv n).length ≤ n
 | 0 => Nat.le_refl _
 | n + 1 => by
  rw [atTo_succ]
  split
  ·rw [List.length_append, List.length_singleton]; exact Nat.succ_le_succ (atTo_le fv n)
  ·exact Nat.le_succ_of_le (atTo_le fv n)
def Inv16 (B n6 : Nat) (W5 : World) (okR okP okT okQ : Nat → Prop) (G0 : Option Addr) (g0 gp g1 : Nat) (G2 : Option Addr) (g2 gq g3 p q : Nat) (l : List Int) (n : Nat) (Lp Lq : List (List Int)) (i : Nat) (ra : List Int) (l8 l10 : Bool) (v8 : Value) (w : World) : Prop :=
 Below W5.heap.size W5 w ∧ n6 ≤ w.heap.size ∧ ∃ r : Nat, (l8 = true → v8 = .slice (some ⟨r, 0, none⟩) 3 3 ∧ n6 ≤ r ∧ Kd.R (Kd.int .i64) 2 w B (fun k => k = r) (.slice (some ⟨r, 0, none⟩) 3 3) ra)
  ∧ (l10 = false → TwoW B okR okP okT okQ G0 g0 gp g1 G2 g2 gq g3 p q l n Lp Lq w)
  ∧ (l10 = true → TwoW B okR (fun k => okP k ∨ k = r) okT okQ G0 g0 gp g1 G2 g2 gq g3 p q l n (Lp.set i ra) Lq w) ∧ (l10 = true → l8 = true)
section
variable {B n6 : Nat} {W5 : World} {okR okP okT okQ : Nat → Prop} {G0 : Option Addr} {g0 gp g1 : Nat} {G2 : Option Addr} {g2 gq g3 p q : Nat} {l : List Int} {n : Nat} {Lp Lq : List (List Int)} {i : Nat} {ra : List Int} {l8 l10 : Bool} {v8 : Value} {w : World}
theorem Inv16.start (h : TwoW B okR okP okT okQ G0 g0 gp g1 G2 g2 gq g3 p q l n Lp Lq w) (hb : Below W5.heap.size W5 w) (hn : n6 ≤ w.heap.size) : Inv16 B n6 W5 okR okP okT okQ G0 g0 gp g1 G2 g2 gq g3 p q l n Lp Lq i ra false false v8 w := ⟨hb, hn, 0, by simp, fun _ => h, by simp, by simp⟩
theorem Inv16.bp (h : Inv16 B n6 W5 okR okP okT okQ G0 g0 gp g1 G2 g2 gq g3 p q l n Lp Lq i ra l8 l10 v8 w) : w.heap[p]? = some (.cells #[.slice G0 l.length g0, .slice (some ⟨gp, 0, none⟩) n g1] 30 (0, 0)) := by
 obtain ⟨_, _, r, _, h1, h2, _⟩ := h
 cases l10 with
 | false => exact (h1 rfl).bp
 | true => exact (h2 rfl).bp
theorem cell_of_S {okX : Nat → Prop} {L : List (List Int)} (hS : Kd.S (Kd.slice 2 (Kd.int .i64)) 22 w B okX (.slice (some ⟨gp, 0, none⟩) n g1) L) (m : Nat) (hm : m < n) : ∃ u, w.cell? ⟨gp, m, none⟩ = some u ∧ w.frozen? ⟨gp, m, none⟩ = false := by
 obtain ⟨oki, c, hcl, _, hcc, _⟩ := Kd.S_lend hS [] (m : Int) (by omega) (by omega)
 obtain ⟨cs, hcs⟩ := Kd.S_typed hS gp rfl
 have hc1 : c.length = 1 := hcl
 match c, hc1 with
 | [u], _ =>
  have := hcc 0 u rfl
  rw [show (Kd.slice 2 (Kd.int .i64)).sz = 1 from rfl, Nat.mul_one, Nat.add_zero, Int.toNat_natCast] at this
  exact ⟨u, this, blk_frozen hcs m⟩
theorem Inv16.cellP (h : Inv16 B n6 W5 okR okP okT okQ G0 g0 gp g1 G2 g2 gq g3 p q l n Lp Lq i ra l8 l10 v8 w) (m : Nat) (hm : m < n) : ∃ u, w.cell? ⟨gp, m, none⟩ = some u ∧ w.frozen? ⟨gp, m, none⟩ = false := by
 obtain ⟨_, _, r, _, h1, h2, _⟩ := h
 cases l10 with
 | false => exact cell_of_S (h1 rfl).s m hm
 | true => exact cell_of_S (h2 rfl).s m hm
theorem Inv16.row8 (h : Inv16 B n6 W5 okR okP okT okQ G0 g0 gp g1 G2 g2 gq g3 p q l n Lp Lq i ra l8 l10 v8 w) (h8 : l8 = true) : ∃ r : Nat, v8 = .slice (some ⟨r, 0, none⟩) 3 3 := by
 obtain ⟨_, _, r, ha, _⟩ := h
 exact ⟨r, (ha h8).1⟩
theorem Inv16.mk8 {a b c : Int} (h : Inv16 B n6 W5 okR okP okT okQ G0 g0 gp g1 G2 g2 gq g3 p q l n Lp Lq i [a, b, c] l8 l10 v8 w) (h8 : l8 = false) (hB : B ≤ n6) : Inv16 B n6 W5 okR okP okT okQ G0 g0 gp g1 G2 g2 gq g3 p q l n Lp Lq i [a, b, c] true l10 (.slice (some ⟨w.heap.size, 0, none⟩) 3 3) (w.alloc (.cells #[.int .i64 a, .int .i64 b, .int .i64 c] 2)) := by
 subst h8
 obtain ⟨hb, hn, r, ha, h1, h2, o2⟩ := h
 have h10 : l10 = false := by cases l10 with | false => rfl | true => exact absurd (o2 rfl) (by simp)
 subst h10
 exact ⟨below_alloc hb _, by simp; omega, w.heap.size, fun _ => ⟨rfl, hn, row3 (Nat.le_trans hB hn) a b c⟩, fun _ => (h1 rfl).alloc _, by simp, by simp⟩
theorem Inv16.st10 (h : Inv16 B n6 W5 okR okP okT okQ G0 g0 gp g1 G2 g2 gq g3 p q l n Lp Lq i ra l8 l10 v8 w) (h8 : l8 = true) (h10 : l10 = false) (hi : i < n) (hP : ∀ k, okP k → k < n6) (hQ : ∀ k, okQ k → k ≠ gp) (hW : W5.heap.size ≤ gp) :
  Inv16 B n6 W5 okR okP okT okQ G0 g0 gp g1 G2 g2 gq g3 p q l n Lp Lq i ra l8 true v8 (w.setCell ⟨gp, i, none⟩ v8) := by
 subst h8 h10
 obtain ⟨hb, hn, r, ha, h1, h2, o2⟩ := h
 obtain ⟨rfl, hr, hR⟩ := ha rfl
 have T := h1 rfl
 have hgp := hP _ T.okp
 exact ⟨below_set hb hW, by simpa using hn, r, fun _ => ⟨rfl, hr, Kd.R_far (p := ⟨gp, i, none⟩) hR (fun k hk => by simp only; omega) _⟩, by simp, fun _ => T.put hR rfl (fun k hk hp => by have := hP k hp; omega) hQ i hi, by simp⟩
theorem Inv16.fin (h : Inv16 B n6 W5 okR okP okT okQ G0 g0 gp g1 G2 g2 gq g3 p q l n Lp Lq i ra l8 l10 v8 w) (h10 : l10 = true) : Below W5.heap.size W5 w ∧ n6 ≤ w.heap.size ∧ ∃ r : Nat, v8 = .slice (some ⟨r, 0, none⟩) 3 3 ∧ n6 ≤ r ∧ r < w.heap.size ∧ TwoW B okR (fun k => okP k ∨ k = r) okT okQ G0 g0 gp g1 G2 g2 gq g3 p q l n (Lp.set i ra) Lq w := by
 subst h10
 obtain ⟨hb, hn, r, ha, h1, h2, o2⟩ := h
 obtain ⟨e1, k1, R1⟩ := ha (o2 rfl)
 exact ⟨hb, hn, r, e1, k1, Kd.R_lt R1 r rfl, h2 rfl⟩
theorem C_two {z : Nat} {A0 A1 A2 A3 : Option Addr} {l1 l2 : List Int} {L1 L2 : List (List Int)} {n1 n2 d0 d1 d2 d3 : Nat} (hz : w.heap[z]? = some (.cells #[.slice A0 l1.length d0, .slice A1 n1 d1, .slice A2 l2.length d2, .slice A3 n2 d3] 30 (0, 0)))
  (h0 : Kd.C (Kd.int .i64) w A0 l1.length l1) (k0 : l1.length ≤ d0) (h1 : Kd.C (Kd.slice 2 (Kd.int .i64)) w A1 L1.length L1) (e1 : L1.length = n1) (k1 : n1 ≤ d1) (h2 : Kd.C (Kd.int .i64) w A2 l2.length l2) (k2 : l2.length ≤ d2) (h3 : Kd.C (Kd.slice 2 (Kd.int .i64)) w A3 L2.length L2) (e2 : L2.length = n2) (k3 : n2 ≤ d3) :
  Kd.C k30 w (some ⟨z, 0, none⟩) 2 [⟨l1, L1⟩, ⟨l2, L2⟩] := by
 subst e1 e2
 refine ⟨rfl, by decide, fun _ => ⟨⟨z, 0, none⟩, rfl, fun j p hj => ?_⟩⟩
 match j, hj with
 | 0, hj =>
  obtain rfl := Option.some.inj hj
  refine ⟨[.slice A0 l1.length d0, .slice A1 L1.length d1], rfl, ⟨[_], [_], rfl, ⟨_, _, rfl, k0, h0⟩, ⟨_, _, rfl, k1, h1⟩⟩, fun m u hu => ?_⟩
  match m, hu with
  | 0, hu => obtain rfl := Option.some.inj hu; exact (blk_cell hz 0).trans rfl
  | 1, hu => obtain rfl := Option.some.inj hu; exact (blk_cell hz 1).trans rfl
  | m + 2, hu => simp at hu
 | 1, hj =>
  obtain rfl := Option.some.inj hj
  refine ⟨[.slice A2 l2.length d2, .slice A3 L2.length d3], rfl, ⟨[_], [_], rfl, ⟨_, _, rfl, k2, h2⟩, ⟨_, _, rfl, k3, h3⟩⟩, fun m u hu => ?_⟩
  match m, hu with
  | 0, hu => obtain rfl := Option.some.inj hu; exact (blk_cell hz 2).trans rfl
  | 1, hu => obtain rfl := Option.some.inj hu; exact (blk_cell hz 3).trans rfl
  | m + 2, hu => simp at hu
 | j + 2, hj => simp at hj
end
def oneCst (FP F AT PA vi ve x y ai : Value) : Nat → Option Value
 | 0 => some FP | 1 => some F | 2 => some AT | 3 => some PA | 4 => some vi | 5 => some ve | 6 => some x | 7 => some y | 9 => some ai | _ => none
set_option maxHeartbeats 8000000 in
set_option maxRecDepth 100000 in
theorem specThree_two (k : Nat) (A0 : Option Addr) (c0 : Nat) (l : List Int) (A1 : Option Addr) (c1 : Nat) (L : List (List Int)) (e : Int) (w : World) (hr0 : Kd.C (Kd.int .i64) w A0 l.length l) (hc0 : l.length ≤ c0) (hr1 : Kd.C (Kd.slice 2 (Kd.int .i64)) w A1 L.length L) (hc1 : L.length ≤ c1) (h1 : spec_l06Is.f k l L = some false) :
  Calls Try.prog 11 #[.agg #[.slice A0 l.length c0, .slice A1 L.length c1], .int .i64 e] w fun x w' => x = .returned (.tuple #[.slice none 0 0, .int .i64 1]) ∧ Below w.heap.size w w' := by
 have hu28 := Try.underlying30
 have HR0 := Aside0.mk hr0
 have HC0 := Aside0.mk hc0
 have HR1 := Aside0.mk hr1
 have HC1 := Aside0.mk hc1
 have H1 := Aside0.mk h1
 clear hr0 hc0 hr1 hc1 h1
 go_enter Try.func11, Try.ntmps11
 go_wp2_with fail
 have hB : Below w.heap.size w (w.alloc (.cells #[.slice A0 l.length c0, .slice A1 L.length c1] 30)) := below_alloc (Below.refl _ _) _
 refine (spec_l06Is.calls k A0 c0 l A1 c1 L false _ (Kd.C_below HR0.out hB) HC0.out (Kd.C_below HR1.out hB) HC1.out H1.out).mono ?_
 rintro x w1 ⟨rfl, hb1⟩
 have HB := Aside0.mk (below_step hB hb1)
 clear hB hb1
 go_wp2_with fail
 go_ret2
 exact ⟨rfl, HB.out⟩
set_option maxHeartbeats 8000000 in
set_option maxRecDepth 100000 in
theorem specThree_three (k kf : Nat) (A0 : Option Addr) (c0 : Nat) (l : List Int) (A1 : Option Addr) (c1 : Nat) (L : List (List Int)) (e : Int) (fv : Nat → Int) (w : World) (hr0 : Kd.C (Kd.int .i64) w A0 l.length l) (hc0 : l.length ≤ c0) (hr1 : Kd.C (Kd.slice 2 (Kd.int .i64)) w A1 L.length L) (hc1 : L.length ≤ c1) (h1 : spec_l06Is.f k l L = some true) (hf : ∀ n, n < L.length → spec_l06Find.f kf (L.getD n []) e = some (fv n)) (hat : (atTo fv L.length).length ≠ 2) (hL8 : l.length + L.length ≤ 8) :
  Calls Try.prog 11 #[.agg #[.slice A0 l.length c0, .slice A1 L.length c1], .int .i64 e] w fun x w' => x = .returned (.tuple #[.slice none 0 0, .int .i64 5]) ∧ Below w.heap.size w w' := by
 have hu28 := Try.underlying30
 have HR0 := Aside0.mk hr0
 have HC0 := Aside0.mk hc0
 have HR1 := Aside0.mk hr1
 have HC1 := Aside0.mk hc1
 have H1 := Aside0.mk h1
 have HF := Aside0.mk hf
 have HAT := Aside0.mk hat
 have HL8 := Aside0.mk hL8
 clear hr0 hc0 hr1 hc1 h1 hf hat hL8
 go_enter Try.func11, Try.ntmps11
 go_wp2_with fail
 have b0 : (w.alloc (.cells #[.slice A0 l.length c0, .slice A1 L.length c1] 30)).heap[w.heap.size]? = some (.cells #[.slice A0 l.length c0, .slice A1 L.length c1] 30 (0, 0)) := new_at rfl
 have hB : Below w.heap.size w (w.alloc (.cells #[.slice A0 l.length c0, .slice A1 L.length c1] 30)) := below_alloc (Below.refl _ _) _
 generalize (w.alloc (.cells #[.slice A0 l.length c0, .slice A1 L.length c1] 30)) = W0 at b0 hB ⊢
 refine (spec_l06Is.calls k A0 c0 l A1 c1 L true _ (Kd.C_below HR0.out hB) HC0.out (Kd.C_below HR1.out hB) HC1.out H1.out).mono ?_
 rintro x w1 ⟨rfl, hb1⟩
 have B0 := Aside0.mk (blk_below b0 hb1)
 have HB := Aside0.mk (below_step hB hb1)
 clear b0 hB hb1
 go_wp2_with (first
  | ((with_reducible refine gate_dst (N := 21) rfl ?_); refine Kd.R_lit (Kd.int .i64) (w0 := w1) w1.heap.size 3 ?hg (N := 21) ?hd (xs := ([] : List Int)) (inner := []) (ok := fun _ => True) (okp := fun _ => False) ?hr ?hp (fun _ hk => hk.elim) trivial (Below.refl _ _) (Nat.le_refl _) (by simp) ?_; (case hd => rfl); (case hg => rfl); (case hr => first | (go_simp; done) | (go_simp; rfl)); (case hp => exact (Reps.none _ _)); intro v1 w2 ho hb hg_ hnew_; have HO1 := Aside0.mk ho; have HB2 := Aside0.mk hb; clear ho hb hg_ hnew_))
 have u76 := Try.underlying72
 go_loopw [6, 7] (fun v s wr => ∃ n : Nat, s = .int .i64 (n : Int) ∧ Aside0 (n ≤ L.length) ∧ Aside0 (Below w1.heap.size w1 wr) ∧ Aside0 (Kd.R (Kd.int .i64) 3 wr w1.heap.size (fun _ => True) v (ints (atTo fv n))))
  (fun _ s _ => L.length - (intOf s).toNat)
 case atStart => exact ⟨0, rfl, ⟨Nat.zero_le _⟩, HB2, HO1⟩
 case round =>
  obtain ⟨n, rfl, HN, HBR, HOR⟩ := hrel
  have hBR := below_step HB.out HBR.out
  have b0 := blk_below B0.out HBR.out
  have q0 := (blk_cell b0 0).trans rfl
  have q1 := (blk_cell b0 1).trans rfl
  have B0R := Aside0.mk b0
  have HBW := Aside0.mk hBR
  clear b0 hBR
  by_cases hlt : n < L.length
  rotate_left
  ·have t1 : decide ((n : Int) < (L.length : Int)) = false := decide_eq_false (by omega)
   have t2 : decide (n < L.length) = false := decide_eq_false hlt
   have HNL := Aside0.mk (show n = L.length by have := HN.out; omega)
   have HORL := HOR
   rw [HNL.out] at HORL
   clear hlt
   obtain ⟨Av, cv, rfl⟩ := Kd.R_slice HORL.out
   rw [ints_len]
   obtain ⟨m, hm⟩ : ∃ m, m = (atTo fv L.length).length := ⟨_, rfl⟩
   have hm2 : m ≠ 2 := hm ▸ HAT.out
   rw [← hm]
   have t4 : ((m : Int) != 2) = true := bne_iff_ne.2 (by omega)
   have t5 : ((m : Int) == 2) = false := beq_eq_false_iff_ne.2 (by omega)
   clear hm hm2
   go_wp2_with fail
   go_ret2
   exact ⟨rfl, HBW.out⟩
  have t1 : decide ((n : Int) < (L.length : Int)) = true := decide_eq_true (by omega)
  have t2 : decide (n < L.length) = true := decide_eq_true hlt
  have hn8 : n < 8 := by have := HL8.out; omega
  have HN8 := Aside0.mk hn8
  have HLT := Aside0.mk hlt
  obtain ⟨ad, An, cn, eA, xn, hcn, hCn⟩ := row_of_C (Kd.C_below HR1.out HBW.out) n hlt
  subst eA
  obtain ⟨fn, hfn⟩ : ∃ f, f = L.getD n [] := ⟨_, rfl⟩
  have hff := HF.out n hlt
  rw [← hfn] at xn hcn hCn hff
  obtain ⟨vn, hvn⟩ : ∃ v, v = fv n := ⟨_, rfl⟩
  rw [← hvn] at hff
  have HFF := Aside0.mk hff
  have HCN := Aside0.mk (And.intro hCn hcn)
  have HVN := Aside0.mk hvn
  clear hff hCn hcn hfn hvn hn8
  have W1 := Aside0.mk (show wrap64 ((n : Int) + 1) = ((n + 1 : Nat) : Int) from wS (by have := HN8.out; omega))
  go_wp2_with fail
  refine (spec_l06Find.calls kf An cn fn e vn _ HCN.out.1 HCN.out.2 HFF.out).mono ?_
  rintro x w3 ⟨rfl, ⟨nd, rfl⟩⟩
  by_cases hv : 0 ≤ vn
  rotate_left
  ·have t3 : decide (vn ≥ 0) = false := decide_eq_false hv
   have HV := Aside0.mk (show atTo fv (n + 1) = atTo fv n from by rw [atTo_succ, if_neg (HVN.out ▸ hv)])
   clear hv q0 q1 xn t1 t2
   go_wp2_with fail
   go_roundw
   case rel => exact ⟨n + 1, congrArg _ W1.out, ⟨HLT.out⟩, ⟨pw_below_drewN HBR.out _⟩, ⟨by rw [HV.out]; exact Kd.R_drewN HOR.out _⟩⟩
   case measure => rw [W1.out]; have := HLT.out; simp [intOf]; omega
  have t3 : decide (vn ≥ 0) = true := decide_eq_true hv
  have HV := Aside0.mk (show atTo fv (n + 1) = atTo fv n ++ [n] from by rw [atTo_succ, if_pos (HVN.out ▸ hv)])
  clear hv q0 q1 xn t1 t2
  have HAL := Aside0.mk (show ((ints (atTo fv n)).length + 1) * 8 ≤ 140737488355328 from by rw [ints_len]; have := atTo_le fv n; have := HN8.out; omega)
  go_wp2_with (first | (at_builtin; refine Kd.R_append (Kd.int .i64) (w0 := w1) w1.heap.size rfl (.tmp 37) (.tmp 39) 72 3 (.int .i64 0) 8 rfl u76 (by kernel_rfl) rfl (by decide) (by omega) u6 (ints (atTo fv n)) (n : Int) [.int .i64 (n : Int)] (fun _ => True) (fun _ => False) rfl rfl ?aP (fun _ hk => hk.elim) ?aF ?aO ?aB ?aS ?aL ?_; (case aP => exact rfl); (case aB => exact pw_below_drewN HBR.out _); (case aF => exact (fun _ _ => trivial)); (case aO => exact Kd.R_drewN HOR.out _); (case aS => exact HBR.out.size); (case aL => exact HAL.out); intro v5 w5 ho5 hb5 hg5 hat5; have HO5 := Aside0.mk ho5; have HB5 := Aside0.mk hb5; clear ho5 hb5 hg5 hat5))
  go_roundw
  case rel => exact ⟨n + 1, congrArg _ W1.out, ⟨HLT.out⟩, HB5, ⟨by rw [HV.out, ints_app]; exact HO5.out⟩⟩
  case measure => rw [W1.out]; have := HLT.out; simp [intOf]; omega
set_option maxHeartbeats 8000000 in
set_option maxRecDepth 100000 in
theorem specThree_one (k kf kc : Nat) (A0 : Option Addr) (c0 : Nat) (l : List Int) (A1 : Option Addr) (c1 : Nat) (L : List (List Int)) (e : Int) (fv : Nat → Int) (i j pi pj : Nat) (a b c d : Int) (w : World) (hr0 : Kd.C (Kd.int .i64) w A0 l.length l) (hc0 : l.length ≤ c0) (hr1 : Kd.C (Kd.slice 2 (Kd.int .i64)) w A1 L.length L) (hc1 : L.length ≤ c1) (h1 : spec_l06Is.f k l L = some true) (hf : ∀ n, n < L.length → spec_l06Find.f kf (L.getD n []) e = some (fv n)) (hat : atTo fv L.length = [i, j]) (hL8 : l.length + L.length ≤ 8) (hi : i < L.length) (hj : j < L.length) (hij : i ≠ j) (hli : (L.getD i []).length = 3) (hlj : (L.getD j []).length = 3) (hpi : fv i = (pi : Int)) (hpj : fv j = (pj : Int)) (hp3 : pi < 3) (hq3 : pj < 3) (ha : (L.getD i []).getD ((pi + 1) % 3) 0 = a) (hb : (L.getD i []).getD ((pi + 2) % 3) 0 = b) (hc : (L.getD j []).getD ((pj + 1) % 3) 0 = c) (hd : (L.getD j []).getD ((pj + 2) % 3) 0 = d) (h2 : spec_l06Copy.f kc l L = some (l, L)) :
  Calls Try.prog 11 #[.agg #[.slice A0 l.length c0, .slice A1 L.length c1], .int .i64 e] w fun x w' => ∃ (A : Option Addr), x = .returned (.tuple #[.slice A 2 2, .int .i64 0]) ∧ Kd.C k30 w' A 2 [⟨l, (L.set i [e, d, a]).set j [e, b, c]⟩, ⟨l, (L.set i [e, d, b]).set j [e, c, a]⟩] ∧ Below w.heap.size w w' := by
 have hu28 := Try.underlying30
 have HR0 := Aside0.mk hr0
 have HC0 := Aside0.mk hc0
 have HR1 := Aside0.mk hr1
 have HC1 := Aside0.mk hc1
 have H1 := Aside0.mk h1
 have HF := Aside0.mk hf
 have HAT := Aside0.mk hat
 have HL8 := Aside0.mk hL8
 have HI := Aside0.mk hi
 have HJ := Aside0.mk hj
 have HIJ := Aside0.mk hij
 have HLI := Aside0.mk hli
 have HLJ := Aside0.mk hlj
 have HPI := Aside0.mk hpi
 have HPJ := Aside0.mk hpj
 have HP3 := Aside0.mk hp3
 have HQ3 := Aside0.mk hq3
 have HVA := Aside0.mk ha
 have HVB := Aside0.mk hb
 have HVC := Aside0.mk hc
 have HVD := Aside0.mk hd
 have H2 := Aside0.mk h2
 clear hr0 hc0 hr1 hc1 h1 hf hat hL8 hi hj hij hli hlj hpi hpj hp3 hq3 ha hb hc hd h2
 go_enter Try.func11, Try.ntmps11
 go_wp2_with fail
 have b0 : (w.alloc (.cells #[.slice A0 l.length c0, .slice A1 L.length c1] 30)).heap[w.heap.size]? = some (.cells #[.slice A0 l.length c0, .slice A1 L.length c1] 30 (0, 0)) := new_at rfl
 have hB : Below w.heap.size w (w.alloc (.cells #[.slice A0 l.length c0, .slice A1 L.length c1] 30)) := below_alloc (Below.refl _ _) _
 generalize (w.alloc (.cells #[.slice A0 l.length c0, .slice A1 L.length c1] 30)) = W0 at b0 hB ⊢
 refine (spec_l06Is.calls k A0 c0 l A1 c1 L true _ (Kd.C_below HR0.out hB) HC0.out (Kd.C_below HR1.out hB) HC1.out H1.out).mono ?_
 rintro x w1 ⟨rfl, hb1⟩
 have B0 := Aside0.mk (blk_below b0 hb1)
 have HB := Aside0.mk (below_step hB hb1)
 clear b0 hB hb1
 go_wp2_with (first
  | ((with_reducible refine gate_dst (N := 21) rfl ?_); refine Kd.R_lit (Kd.int .i64) (w0 := w1) w1.heap.size 3 ?hg (N := 21) ?hd (xs := ([] : List Int)) (inner := []) (ok := fun _ => True) (okp := fun _ => False) ?hr ?hp (fun _ hk => hk.elim) trivial (Below.refl _ _) (Nat.le_refl _) (by simp) ?_; (case hd => rfl); (case hg => rfl); (case hr => first | (go_simp; done) | (go_simp; rfl)); (case hp => exact (Reps.none _ _)); intro v1 w2 ho hb hg_ hnew_; have HO1 := Aside0.mk ho; have HB2 := Aside0.mk hb; clear ho hb hg_ hnew_))
 have u76 := Try.underlying72
 go_loopw [6, 7] (fun v s wr => ∃ n : Nat, s = .int .i64 (n : Int) ∧ Aside0 (n ≤ L.length) ∧ Aside0 (Below w1.heap.size w1 wr) ∧ Aside0 (Kd.R (Kd.int .i64) 3 wr w1.heap.size (fun _ => True) v (ints (atTo fv n))))
  (fun _ s _ => L.length - (intOf s).toNat)
 case atStart => exact ⟨0, rfl, ⟨Nat.zero_le _⟩, HB2, HO1⟩
 case round =>
  obtain ⟨n, rfl, HN, HBR, HOR⟩ := hrel
  have hBR := below_step HB.out HBR.out
  have b0 := blk_below B0.out HBR.out
  have q0 := (blk_cell b0 0).trans rfl
  have q1 := (blk_cell b0 1).trans rfl
  have B0R := Aside0.mk b0
  have HBW := Aside0.mk hBR
  clear b0 hBR
  by_cases hlt : n < L.length
  ·have t1 : decide ((n : Int) < (L.length : Int)) = true := decide_eq_true (by omega)
   have t2 : decide (n < L.length) = true := decide_eq_true hlt
   have hn8 : n < 8 := by have := HL8.out; omega
   have HN8 := Aside0.mk hn8
   have HLT := Aside0.mk hlt
   obtain ⟨ad, An, cn, eA, xn, hcn, hCn⟩ := row_of_C (Kd.C_below HR1.out HBW.out) n hlt
   subst eA
   obtain ⟨fn, hfn⟩ : ∃ f, f = L.getD n [] := ⟨_, rfl⟩
   have hff := HF.out n hlt
   rw [← hfn] at xn hcn hCn hff
   obtain ⟨vn, hvn⟩ : ∃ v, v = fv n := ⟨_, rfl⟩
   rw [← hvn] at hff
   have HFF := Aside0.mk hff
   have HCN := Aside0.mk (And.intro hCn hcn)
   have HVN := Aside0.mk hvn
   clear hff hCn hcn hfn hvn hn8
   have W1 := Aside0.mk (show wrap64 ((n : Int) + 1) = ((n + 1 : Nat) : Int) from wS (by have := HN8.out; omega))
   go_wp2_with fail
   refine (spec_l06Find.calls kf An cn fn e vn _ HCN.out.1 HCN.out.2 HFF.out).mono ?_
   rintro x w3 ⟨rfl, ⟨nd, rfl⟩⟩
   by_cases hv : 0 ≤ vn
   rotate_left
   ·have t3 : decide (vn ≥ 0) = false := decide_eq_false hv
    have HV := Aside0.mk (show atTo fv (n + 1) = atTo fv n from by rw [atTo_succ, if_neg (HVN.out ▸ hv)])
    clear hv q0 q1 xn t1 t2
    go_wp2_with fail
    go_roundw
    case rel => exact ⟨n + 1, congrArg _ W1.out, ⟨HLT.out⟩, ⟨pw_below_drewN HBR.out _⟩, ⟨by rw [HV.out]; exact Kd.R_drewN HOR.out _⟩⟩
    case measure => rw [W1.out]; have := HLT.out; simp [intOf]; omega
   have t3 : decide (vn ≥ 0) = true := decide_eq_true hv
   have HV := Aside0.mk (show atTo fv (n + 1) = atTo fv n ++ [n] from by rw [atTo_succ, if_pos (HVN.out ▸ hv)])
   clear hv q0 q1 xn t1 t2
   have HAL := Aside0.mk (show ((ints (atTo fv n)).length + 1) * 8 ≤ 140737488355328 from by rw [ints_len]; have := atTo_le fv n; have := HN8.out; omega)
   go_wp2_with (first | (at_builtin; refine Kd.R_append (Kd.int .i64) (w0 := w1) w1.heap.size rfl (.tmp 37) (.tmp 39) 72 3 (.int .i64 0) 8 rfl u76 (by kernel_rfl) rfl (by decide) (by omega) u6 (ints (atTo fv n)) (n : Int) [.int .i64 (n : Int)] (fun _ => True) (fun _ => False) rfl rfl ?aP (fun _ hk => hk.elim) ?aF ?aO ?aB ?aS ?aL ?_; (case aP => exact rfl); (case aB => exact pw_below_drewN HBR.out _); (case aF => exact (fun _ _ => trivial)); (case aO => exact Kd.R_drewN HOR.out _); (case aS => exact HBR.out.size); (case aL => exact HAL.out); intro v5 w5 ho5 hb5 hg5 hat5; have HO5 := Aside0.mk ho5; have HB5 := Aside0.mk hb5; clear ho5 hb5 hg5 hat5))
   go_roundw
   case rel => exact ⟨n + 1, congrArg _ W1.out, ⟨HLT.out⟩, HB5, ⟨by rw [HV.out, ints_app]; exact HO5.out⟩⟩
   case measure => rw [W1.out]; have := HLT.out; simp [intOf]; omega
  have t1 : decide ((n : Int) < (L.length : Int)) = false := decide_eq_false (by omega)
  have t2 : decide (n < L.length) = false := decide_eq_false hlt
  have HNL := Aside0.mk (show n = L.length by have := HN.out; omega)
  have HORL := HOR
  rw [HNL.out] at HORL
  clear hlt
  have ho : Kd.R (Kd.int .i64) 3 wr w1.heap.size (fun _ => True) u6 [(i : Int), (j : Int)] := by have := HORL.out; rw [HAT.out] at this; exact this
  obtain ⟨ga, cv, hv, gb, gl, cl, HG⟩ := Kd.R_form ho (by show 0 < 2; omega)
  have hv : u6 = .slice (some ⟨ga, 0, none⟩) 2 cv := hv
  subst hv
  obtain ⟨_, e1, z0⟩ := cell_of_C (Kd.R_reads' ho).2.2 0 (by show 0 < 2; omega)
  obtain rfl := Option.some.inj e1
  obtain ⟨_, e2, z1⟩ := cell_of_C (Kd.R_reads' ho).2.2 1 (by show 1 < 2; omega)
  obtain rfl := Option.some.inj e2
  rw [add_plain] at z0 z1
  have z0 : wr.cell? ⟨ga, 0, none⟩ = some (.int .i64 (i : Int)) := z0
  have z1 : wr.cell? ⟨ga, 1, none⟩ = some (.int .i64 (j : Int)) := z1
  have Z0 := Aside0.mk z0
  have Z1 := Aside0.mk z1
  have GL := Aside0.mk gl
  clear ho gb gl HG e1 e2 cl HOR HORL
  obtain ⟨ad, Ai, ci, eA, xi, hci, hCi⟩ := row_of_C (Kd.C_below HR1.out HBW.out) i HI.out
  obtain ⟨ad', Aj, cj, eA', xj, hcj, hCj⟩ := row_of_C (Kd.C_below HR1.out HBW.out) j HJ.out
  subst eA
  obtain rfl := Option.some.inj eA'
  have t4 := HI.out
  have t5 := HJ.out
  have hff := HF.out i HI.out
  have hfg := HF.out j HJ.out
  rw [HPI.out] at hff
  rw [HPJ.out] at hfg
  have hli := HLI.out
  have hlj := HLJ.out
  have hva := HVA.out
  have hvb := HVB.out
  have hvc := HVC.out
  have hvd := HVD.out
  obtain ⟨fi, hfi⟩ : ∃ f, f = L.getD i [] := ⟨_, rfl⟩
  obtain ⟨fj, hfj⟩ : ∃ f, f = L.getD j [] := ⟨_, rfl⟩
  rw [← hfi] at xi hci hCi hff hli hva hvb
  rw [← hfj] at xj hcj hCj hfg hlj hvc hvd
  have FI := Aside0.mk hff
  have FJ := Aside0.mk hfg
  have HCI := Aside0.mk (And.intro hCi hci)
  have HCJ := Aside0.mk (And.intro hCj hcj)
  have HLI := Aside0.mk hli
  have HLJ := Aside0.mk hlj
  have HVA := Aside0.mk hva
  have HVB := Aside0.mk hvb
  have HVC := Aside0.mk hvc
  have HVD := Aside0.mk hvd
  clear hff hfg hli hlj hva hvb hvc hvd hfi hfj hCi hCj hci hcj eA'
  go_wp2_with fail
  go_quiet (fail)
  clear q0 q1 z0 z1 xi xj t1 t2 t4 t5
  have hd : ∀ n, Below wr.heap.size wr (wr.drewN n) := fun n => pw_below_drewN (Below.refl wr.heap.size wr) n
  have hCI : ∀ n, Kd.C (Kd.int .i64) (wr.drewN n) Ai fi.length fi := fun n => Kd.C_drewN HCI.out.1 n
  have hCJ : ∀ n, Kd.C (Kd.int .i64) (wr.drewN n) Aj fj.length fj := fun n => Kd.C_drewN HCJ.out.1 n
  go_wp2_with fail
  refine (spec_l06Find.calls kf Ai ci fi e (pi : Int) _ (hCI _) HCI.out.2 FI.out).mono ?_
  rintro x w3 ⟨rfl, ⟨nd3, rfl⟩⟩
  go_wp2_with fail
  refine (spec_l06Find.calls kf Aj cj fj e (pj : Int) _ (hCJ _) HCJ.out.2 FJ.out).mono ?_
  rintro x w4 ⟨rfl, ⟨nd4, rfl⟩⟩
  obtain ⟨ua, hua⟩ : ∃ u, u = (pi + 1) % 3 := ⟨_, rfl⟩
  obtain ⟨ub, hub⟩ : ∃ u, u = (pi + 2) % 3 := ⟨_, rfl⟩
  obtain ⟨uc, huc⟩ : ∃ u, u = (pj + 1) % 3 := ⟨_, rfl⟩
  obtain ⟨ud, hud⟩ : ∃ u, u = (pj + 2) % 3 := ⟨_, rfl⟩
  obtain ⟨p1, hp1⟩ : ∃ u, u = pi + 1 := ⟨_, rfl⟩
  have HP_1 := Aside0.mk hp1
  clear hp1
  obtain ⟨p2, hp2⟩ : ∃ u, u = pi + 2 := ⟨_, rfl⟩
  have HP_2 := Aside0.mk hp2
  clear hp2
  obtain ⟨p3, hp3⟩ : ∃ u, u = pj + 1 := ⟨_, rfl⟩
  have HP_3 := Aside0.mk hp3
  clear hp3
  obtain ⟨p4, hp4⟩ : ∃ u, u = pj + 2 := ⟨_, rfl⟩
  have HP_4 := Aside0.mk hp4
  clear hp4
  rw [← HP_1.out] at hua
  rw [← HP_2.out] at hub
  rw [← HP_3.out] at huc
  rw [← HP_4.out] at hud
  have HUA := Aside0.mk hua
  have HUB := Aside0.mk hub
  have HUC := Aside0.mk huc
  have HUD := Aside0.mk hud
  clear hua hub huc hud
  have k1 : wrap64 ((pi : Int) + 1) = (p1 : Int) := by have := HP3.out; have := HP_1.out; unfold wrap64; omega
  have k2 : wrap64 ((pi : Int) + 2) = (p2 : Int) := by clear k1; have := HP3.out; have := HP_2.out; unfold wrap64; omega
  have k3 : wrap64 ((pj : Int) + 1) = (p3 : Int) := by clear k1 k2; have := HQ3.out; have := HP_3.out; unfold wrap64; omega
  have k4 : wrap64 ((pj : Int) + 2) = (p4 : Int) := by clear k1 k2 k3; have := HQ3.out; have := HP_4.out; unfold wrap64; omega
  have m1 : Int.tmod (p1 : Int) 3 = (ua : Int) := by rw [HUA.out]; rfl
  have m2 : Int.tmod (p2 : Int) 3 = (ub : Int) := by rw [HUB.out]; rfl
  have m3 : Int.tmod (p3 : Int) 3 = (uc : Int) := by rw [HUC.out]; rfl
  have m4 : Int.tmod (p4 : Int) 3 = (ud : Int) := by rw [HUD.out]; rfl
  have n1 : IntKind.i64.wrap ((pi : Int) + 1) = (p1 : Int) := by rw [i64_w]; exact k1
  have n2 : IntKind.i64.wrap ((pi : Int) + 2) = (p2 : Int) := by rw [i64_w]; exact k2
  have n3 : IntKind.i64.wrap ((pj : Int) + 1) = (p3 : Int) := by rw [i64_w]; exact k3
  have n4 : IntKind.i64.wrap ((pj : Int) + 2) = (p4 : Int) := by rw [i64_w]; exact k4
  have la : ua < fi.length := by clear k1 k2 k3 k4 n1 n2 n3 n4; have := HLI.out; have := HUA.out; omega
  have lb : ub < fi.length := by clear k1 k2 k3 k4 n1 n2 n3 n4; have := HLI.out; have := HUB.out; omega
  have lc : uc < fj.length := by clear k1 k2 k3 k4 n1 n2 n3 n4; have := HLJ.out; have := HUC.out; omega
  have ld : ud < fj.length := by clear k1 k2 k3 k4 n1 n2 n3 n4; have := HLJ.out; have := HUD.out; omega
  have i1 : IntKind.i64.wrap (ua : Int) = (ua : Int) := by rw [i64_w]; clear k1 k2 k3 k4 n1 n2 n3 n4; have := HLI.out; have := HUA.out; unfold wrap64; omega
  have o1 : wrap64 (ua : Int) = (ua : Int) := by rw [← i64_w]; exact i1
  have s1 : decide ((ua : Int) < (fi.length : Int)) = true := decide_eq_true (by clear k1 k2 k3 k4 n1 n2 n3 n4 i1 o1; omega)
  have r1 : decide (ua < fi.length) = true := decide_eq_true la
  have i2 : IntKind.i64.wrap (ub : Int) = (ub : Int) := by rw [i64_w]; clear k1 k2 k3 k4 n1 n2 n3 n4 i1 o1; have := HLI.out; have := HUB.out; unfold wrap64; omega
  have o2 : wrap64 (ub : Int) = (ub : Int) := by rw [← i64_w]; exact i2
  have s2 : decide ((ub : Int) < (fi.length : Int)) = true := decide_eq_true (by clear k1 k2 k3 k4 n1 n2 n3 n4 i1 o1 i2 o2; omega)
  have r2 : decide (ub < fi.length) = true := decide_eq_true lb
  have i3 : IntKind.i64.wrap (uc : Int) = (uc : Int) := by rw [i64_w]; clear k1 k2 k3 k4 n1 n2 n3 n4 i1 o1 i2 o2; have := HLJ.out; have := HUC.out; unfold wrap64; omega
  have o3 : wrap64 (uc : Int) = (uc : Int) := by rw [← i64_w]; exact i3
  have s3 : decide ((uc : Int) < (fj.length : Int)) = true := decide_eq_true (by clear k1 k2 k3 k4 n1 n2 n3 n4 i1 o1 i2 o2 i3 o3; omega)
  have r3 : decide (uc < fj.length) = true := decide_eq_true lc
  have i4 : IntKind.i64.wrap (ud : Int) = (ud : Int) := by rw [i64_w]; clear k1 k2 k3 k4 n1 n2 n3 n4 i1 o1 i2 o2 i3 o3; have := HLJ.out; have := HUD.out; unfold wrap64; omega
  have o4 : wrap64 (ud : Int) = (ud : Int) := by rw [← i64_w]; exact i4
  have s4 : decide ((ud : Int) < (fj.length : Int)) = true := decide_eq_true (by clear k1 k2 k3 k4 n1 n2 n3 n4 i1 o1 i2 o2 i3 o3 i4 o4; omega)
  have r4 : decide (ud < fj.length) = true := decide_eq_true ld
  have va : fi.getD ua 0 = a := by rw [HUA.out, HP_1.out]; exact HVA.out
  have vb : fi.getD ub 0 = b := by rw [HUB.out, HP_2.out]; exact HVB.out
  have vc : fj.getD uc 0 = c := by rw [HUC.out, HP_3.out]; exact HVC.out
  have vd : fj.getD ud 0 = d := by rw [HUD.out, HP_4.out]; exact HVD.out
  obtain ⟨ai, eai, ya⟩ := cell_of_C HCI.out.1 ua la
  obtain ⟨ai', eai', yb⟩ := cell_of_C HCI.out.1 ub lb
  obtain ⟨aj, eaj, yc⟩ := cell_of_C HCJ.out.1 uc lc
  obtain ⟨aj', eaj', yd⟩ := cell_of_C HCJ.out.1 ud ld
  subst eai eaj
  obtain rfl := Option.some.inj eai'
  obtain rfl := Option.some.inj eaj'
  rw [va] at ya
  rw [vb] at yb
  rw [vc] at yc
  rw [vd] at yd
  clear eai' eaj' va vb vc vd hCI hCJ
  go_wp2_with fail
  go_quiet (fail)
  go_wp2_with fail
  go_quiet (fail)
  have hd5 : ∀ x y z, Below w.heap.size w (((wr.drewN x).drewN y).drewN z) ∧ (((wr.drewN x).drewN y).drewN z).heap[w.heap.size]? = some (.cells #[.slice A0 l.length c0, .slice (some ad) L.length c1] 30 (0, 0)) ∧ (((wr.drewN x).drewN y).drewN z).cell? ⟨ga, 0, none⟩ = some (.int .i64 (i : Int)) ∧ (((wr.drewN x).drewN y).drewN z).cell? ⟨ga, 1, none⟩ = some (.int .i64 (j : Int)) := fun x y z => ⟨pw_below_drewN (pw_below_drewN (pw_below_drewN HBW.out _) _) _, B0R.out, Z0.out, Z1.out⟩
  go_wp2_with fail
  generalize hW : ((wr.drewN _).drewN _).drewN _ = W5
  obtain ⟨hB5, b5, z0, z1⟩ := hW ▸ hd5 _ _ _
  have HB5 := Aside0.mk hB5
  have B5 := Aside0.mk b5
  have Z0 := Aside0.mk z0
  have Z1 := Aside0.mk z1
  clear hd5 hW hB5 b5 z0 z1 hd ya yb yc yd k1 k2 k3 k4 m1 m2 m3 m4 n1 n2 n3 n4 la lb lc ld i1 i2 i3 i4 o1 o2 o3 o4 s1 s2 s3 s4 r1 r2 r3 r4
  refine region_inv (fun L_ V w' => ∃ p q m : Nat, Below W5.heap.size W5 w' ∧ m ≤ w'.heap.size ∧ (L_ 0 = true → V 0 = .agg #[.slice A0 l.length c0, .slice (some ad) L.length c1]) ∧ (L_ 2 = true → V 2 = .agg #[.slice A0 l.length c0, .slice (some ad) L.length c1])
   ∧ (L_ 1 = true → ∃ v0 v1, V 1 = .agg #[v0, v1] ∧ Kd.R (Kd.int .i64) 2 w' W5.heap.size (fun k => k < m) v0 l ∧ Kd.S (Kd.slice 2 (Kd.int .i64)) 22 w' W5.heap.size (fun k => some k ≠ v0.ownBlock ∧ k < m) v1 L)
   ∧ (L_ 3 = true → ∃ v0 v1, V 3 = .agg #[v0, v1] ∧ Kd.R (Kd.int .i64) 2 w' W5.heap.size (fun k => m ≤ k) v0 l ∧ Kd.S (Kd.slice 2 (Kd.int .i64)) 22 w' W5.heap.size (fun k => some k ≠ v0.ownBlock ∧ m ≤ k) v1 L)
   ∧ (L_ 4 = true → V 4 = .pointer (some ⟨p, 0, none⟩) ∧ W5.heap.size ≤ p ∧ p < w'.heap.size ∧ (L_ 6 = false → w'.heap[p]? = some (.cells #[.slice none 0 0, .slice none 0 0] 30 (0, 0))) ∧ (L_ 6 = true → ∀ v0 v1, V 1 = .agg #[v0, v1] → w'.heap[p]? = some (.cells #[v0, v1] 30 (0, 0))))
   ∧ (L_ 5 = true → V 5 = .pointer (some ⟨q, 0, none⟩) ∧ W5.heap.size ≤ q ∧ q < w'.heap.size ∧ (L_ 7 = false → w'.heap[q]? = some (.cells #[.slice none 0 0, .slice none 0 0] 30 (0, 0))) ∧ (L_ 7 = true → ∀ v0 v1, V 3 = .agg #[v0, v1] → w'.heap[q]? = some (.cells #[v0, v1] 30 (0, 0))))
   ∧ (L_ 4 = true → L_ 5 = true → p ≠ q) ∧ (L_ 3 = true → L_ 1 = true) ∧ (L_ 6 = true → L_ 4 = true ∧ L_ 3 = true) ∧ (L_ 7 = true → L_ 5 = true ∧ L_ 3 = true)) (by kernel_rfl) (by kernel_rfl) ?h0 ?step ?fin
  case h0 => exact ⟨0, 0, 0, below_drew1 (Below.refl _ _), Nat.zero_le _, by simp, by simp, by simp, by simp, by simp, by simp, by simp, by simp, by simp, by simp⟩
  case fin =>
   rintro V w6 ⟨p, q, m, hB, hm, h0, h2, h1, h3, h4, h5, hpq, o1, o2, o3⟩
   obtain ⟨v0, v1, hV1, R1, S1⟩ := h1 (by kernel_rfl)
   obtain ⟨v2, v3, hV3, R3, S3⟩ := h3 (by kernel_rfl)
   obtain ⟨hV4, hp1, hp2, _, hp3⟩ := h4 (by kernel_rfl)
   obtain ⟨hV5, hq1, hq2, _, hq3⟩ := h5 (by kernel_rfl)
   have b13 := hp3 (by kernel_rfl) v0 v1 hV1
   have b14 := hq3 (by kernel_rfl) v2 v3 hV3
   have hne := hpq (by kernel_rfl) (by kernel_rfl)
   have hV0 := h0 (by kernel_rfl)
   have hV2 := h2 (by kernel_rfl)
   obtain ⟨G0, g0, rfl⟩ := Kd.R_slice R1
   obtain ⟨G1, g1, rfl⟩ := Kd.S_slice S1
   obtain ⟨G2, g2, rfl⟩ := Kd.R_slice R3
   obtain ⟨G3, g3, rfl⟩ := Kd.S_slice S3
   clear h0 h1 h2 h3 h4 h5 hpq o1 o2 o3 hp3 hq3
   change Exit.then _ _ Exit.normal (Rgn.upTo _ _ V 8) w6
   simp only [Rgn.upTo, Rgn.dst, hV0, hV1, hV2, hV3, hV4, hV5, Act.put, List.setIfInBounds_toArray, List.set_cons_zero, List.set_cons_succ, List.getElem?_toArray, List.getElem?_cons_zero, List.getElem?_cons_succ, Option.bind_some]
   obtain ⟨gp, hgp⟩ : ∃ gp, G1 = some ⟨gp, 0, none⟩ := by
    obtain ⟨ad1, e1, _⟩ := (Kd.S_reads' S1).2.2.2.2 (by have := HI.out; omega)
    subst e1
    obtain ⟨gp, e2⟩ := Kd.R_head (Kd.S_R S1)
    exact ⟨gp, by rw [e2]⟩
   obtain ⟨gq, hgq⟩ : ∃ gq, G3 = some ⟨gq, 0, none⟩ := by
    obtain ⟨ad1, e1, _⟩ := (Kd.S_reads' S3).2.2.2.2 (by have := HI.out; omega)
    subst e1
    obtain ⟨gq, e2⟩ := Kd.R_head (Kd.S_R S3)
    exact ⟨gq, by rw [e2]⟩
   subst hgp
   subst hgq
   obtain ⟨okR, okP, okT, okQ, T0, dPR, dTR, dTP, dQR, dQP, dQT, hRs, hPs, hTs, hQs⟩ : ∃ okR okP okT okQ : Nat → Prop, TwoW W5.heap.size okR okP okT okQ G0 g0 gp g1 G2 g2 gq g3 p q l L.length L L w6 ∧ (∀ k, okP k → ¬ okR k) ∧ (∀ k, okT k → ¬ okR k) ∧ (∀ k, okT k → ¬ okP k) ∧ (∀ k, okQ k → ¬ okR k) ∧ (∀ k, okQ k → ¬ okP k) ∧ (∀ k, okQ k → ¬ okT k) ∧ (∀ k, okR k → k < w6.heap.size) ∧ (∀ k, okP k → k < w6.heap.size) ∧ (∀ k, okT k → k < w6.heap.size) ∧ (∀ k, okQ k → k < w6.heap.size) :=
    ⟨fun k => some k = (Value.slice G0 l.length g0).ownBlock ∧ k < m, fun k => some k ≠ (Value.slice G0 l.length g0).ownBlock ∧ k < m, fun k => (some k = (Value.slice G2 l.length g2).ownBlock ∧ m ≤ k) ∧ k < w6.heap.size, fun k => (some k ≠ (Value.slice G2 l.length g2).ownBlock ∧ m ≤ k) ∧ k < w6.heap.size,
     ⟨Kd.R_mono (Kd.R_tight rfl R1) (fun k hk => ⟨hk, R1.1 k hk.symm⟩), S1, Kd.R_mono (Kd.R_tight rfl R3) (fun k hk => ⟨⟨hk, R3.1 k hk.symm⟩, Kd.R_lt R3 k hk.symm⟩), Kd.S_mono (Kd.S_bound S3) (fun k hk => ⟨hk.1, hk.2.2.1⟩), b13, b14⟩,
     fun k h g => h.1 g.1, fun k h g => by have := h.1.2; have := g.2; omega, fun k h g => by have := h.1.2; have := g.2; omega, fun k h g => by have := h.1.2; have := g.2; omega, fun k h g => by have := h.1.2; have := g.2; omega, fun k h g => h.1.1 g.1.1, fun k h => by have := h.2; omega, fun k h => by have := h.2; omega, fun k h => h.2, fun k h => h.2⟩
   have hgpW : W5.heap.size ≤ gp := Kd.S_base T0.s gp rfl
   have hgqW : W5.heap.size ≤ gq := Kd.S_base T0.u gq rfl
   have hgp6 : gp < w6.heap.size := hPs _ T0.okp
   have hgq6 : gq < w6.heap.size := hQs _ T0.swap.okp
   have hQgp : ∀ k, okQ k → k ≠ gp := fun k hk e => dQP k hk (e ▸ T0.okp)
   have hPgq : ∀ k, okP k → k ≠ gq := fun k hk e => dQP gq T0.swap.okp (e ▸ hk)
   clear R1 S1 R3 S3 b13 b14 hm hne hV0 hV1 hV2 hV3 hV4 hV5
   go_wp2_with fail
   refine region_inv (fun L_ V w' => (∀ s u, L_ s = true → oneCst (.pointer (some ⟨p, 1, none⟩)) (.slice (some ⟨gp, 0, none⟩) L.length g1) (.slice (some ⟨ga, 0, none⟩) 2 cv) (.pointer (some ⟨ga, 0, none⟩)) (.int .i64 (i : Int)) (.int .i64 e) (.int .i64 d) (.int .i64 a) (.pointer (some ⟨gp, i, none⟩)) s = some u → V s = u) ∧ Inv16 W5.heap.size w6.heap.size W5 okR okP okT okQ G0 g0 gp g1 G2 g2 gq g3 p q l L.length L L i [e, d, a] (L_ 8) (L_ 10) (V 8) w') (by kernel_rfl) (by kernel_rfl) ?h0A ?stepA ?finA
   case h0A => exact ⟨(fun s u h => by cases h), Inv16.start T0.drew (below_drew1 hB) (Nat.le_refl _)⟩
   case stepA =>
    intro i_ o ho L_ V bb w' hL hdep hAt hI K hK
    obtain ⟨hC, hI⟩ := hI
    have bp := hI.bp
    have y1 := (blk_cell bp 1).trans rfl
    have zz := (hI.1.cell (World.block_lt_of_cell? W5 _ Z0.out)).trans Z0.out
    match i_, ho, hL, hdep, hK with
    | 0, ho, hL, hdep, hK =>
     have E16 : bb.tmps[16]? = some (.pointer (some ⟨p, 0, none⟩)) := (hAt.keeps (by kernel_rfl)).trans rfl
     obtain rfl := Option.some.inj ho
     unfold Oper.wp
     go_simp
     exact hK (.pointer (some ⟨p, 1, none⟩)) w' ⟨Rgn.consts_step hC 0 _ (fun u hu => Option.some.inj hu), hI⟩
    | 1, ho, hL, hdep, hK =>
     have d0 : L_ 0 = true := List.all_eq_true.1 hdep 0 (List.contains_iff_mem.1 (by kernel_rfl))
     have E0 : bb.tmps[92]? = some (.pointer (some ⟨p, 1, none⟩)) := (hAt.put 0 92 d0 rfl).trans (congrArg some (hC 0 _ d0 rfl))
     obtain rfl := Option.some.inj ho
     unfold Oper.wp
     go_simp
     exact hK (.slice (some ⟨gp, 0, none⟩) L.length g1) w' ⟨Rgn.consts_step hC 1 _ (fun u hu => Option.some.inj hu), hI⟩
    | 2, ho, hL, hdep, hK =>
     have E6 : bb.tmps[6]? = some (.slice (some ⟨ga, 0, none⟩) 2 cv) := (hAt.keeps (by kernel_rfl)).trans rfl
     obtain rfl := Option.some.inj ho
     unfold Oper.wp
     go_simp
     exact hK (.slice (some ⟨ga, 0, none⟩) 2 cv) w' ⟨Rgn.consts_step hC 2 _ (fun u hu => Option.some.inj hu), hI⟩
    | 3, ho, hL, hdep, hK =>
     have d2 : L_ 2 = true := List.all_eq_true.1 hdep 2 (List.contains_iff_mem.1 (by kernel_rfl))
     have E2 : bb.tmps[94]? = some (.slice (some ⟨ga, 0, none⟩) 2 cv) := (hAt.put 2 94 d2 rfl).trans (congrArg some (hC 2 _ d2 rfl))
     obtain rfl := Option.some.inj ho
     unfold Oper.wp
     go_simp
     exact hK (.pointer (some ⟨ga, 0, none⟩)) w' ⟨Rgn.consts_step hC 3 _ (fun u hu => Option.some.inj hu), hI⟩
    | 4, ho, hL, hdep, hK =>
     have d3 : L_ 3 = true := List.all_eq_true.1 hdep 3 (List.contains_iff_mem.1 (by kernel_rfl))
     have E3 : bb.tmps[95]? = some (.pointer (some ⟨ga, 0, none⟩)) := (hAt.put 3 95 d3 rfl).trans (congrArg some (hC 3 _ d3 rfl))
     obtain rfl := Option.some.inj ho
     unfold Oper.wp
     go_simp
     exact hK (.int .i64 (i : Int)) w' ⟨Rgn.consts_step hC 4 _ (fun u hu => Option.some.inj hu), hI⟩
    | 5, ho, hL, hdep, hK =>
     have E1 : bb.tmps[1]? = some (.int .i64 e) := (hAt.keeps (by kernel_rfl)).trans rfl
     obtain rfl := Option.some.inj ho
     unfold Oper.wp
     go_simp
     exact hK (.int .i64 e) w' ⟨Rgn.consts_step hC 5 _ (fun u hu => Option.some.inj hu), hI⟩
    | 6, ho, hL, hdep, hK =>
     have E15 : bb.tmps[15]? = some (.int .i64 d) := (hAt.keeps (by kernel_rfl)).trans rfl
     obtain rfl := Option.some.inj ho
     unfold Oper.wp
     go_simp
     exact hK (.int .i64 d) w' ⟨Rgn.consts_step hC 6 _ (fun u hu => Option.some.inj hu), hI⟩
    | 7, ho, hL, hdep, hK =>
     have E12 : bb.tmps[12]? = some (.int .i64 a) := (hAt.keeps (by kernel_rfl)).trans rfl
     obtain rfl := Option.some.inj ho
     unfold Oper.wp
     go_simp
     exact hK (.int .i64 a) w' ⟨Rgn.consts_step hC 7 _ (fun u hu => Option.some.inj hu), hI⟩
    | 8, ho, hL, hdep, hK =>
     have d5 : L_ 5 = true := List.all_eq_true.1 hdep 5 (List.contains_iff_mem.1 (by kernel_rfl))
     have E5 : bb.tmps[97]? = some (.int .i64 e) := (hAt.put 5 97 d5 rfl).trans (congrArg some (hC 5 _ d5 rfl))
     have d6 : L_ 6 = true := List.all_eq_true.1 hdep 6 (List.contains_iff_mem.1 (by kernel_rfl))
     have E6 : bb.tmps[98]? = some (.int .i64 d) := (hAt.put 6 98 d6 rfl).trans (congrArg some (hC 6 _ d6 rfl))
     have d7 : L_ 7 = true := List.all_eq_true.1 hdep 7 (List.contains_iff_mem.1 (by kernel_rfl))
     have E7 : bb.tmps[99]? = some (.int .i64 a) := (hAt.put 7 99 d7 rfl).trans (congrArg some (hC 7 _ d7 rfl))
     obtain rfl := Option.some.inj ho
     unfold Oper.wp
     go_simp
     exact hK _ _ ⟨Rgn.consts_step hC 8 _ (fun u hu => by cases hu), hI.mk8 hL hB.size⟩
    | 9, ho, hL, hdep, hK =>
     have d1 : L_ 1 = true := List.all_eq_true.1 hdep 1 (List.contains_iff_mem.1 (by kernel_rfl))
     have E1 : bb.tmps[93]? = some (.slice (some ⟨gp, 0, none⟩) L.length g1) := (hAt.put 1 93 d1 rfl).trans (congrArg some (hC 1 _ d1 rfl))
     have d4 : L_ 4 = true := List.all_eq_true.1 hdep 4 (List.contains_iff_mem.1 (by kernel_rfl))
     have E4 : bb.tmps[96]? = some (.int .i64 (i : Int)) := (hAt.put 4 96 d4 rfl).trans (congrArg some (hC 4 _ d4 rfl))
     have g1 : decide ((i : Int) < (L.length : Int)) = true := decide_eq_true (by have := HI.out; omega)
     have g2 : decide (i < L.length) = true := decide_eq_true HI.out
     have g3 := add_plain gp i
     have g4 := HI.out
     obtain rfl := Option.some.inj ho
     unfold Oper.wp
     go_simp
     exact hK (.pointer (some ⟨gp, i, none⟩)) w' ⟨Rgn.consts_step hC 9 _ (fun u hu => Option.some.inj hu), hI⟩
    | 10, ho, hL, hdep, hK =>
     have d9 : L_ 9 = true := List.all_eq_true.1 hdep 9 (List.contains_iff_mem.1 (by kernel_rfl))
     have E9 : bb.tmps[101]? = some (.pointer (some ⟨gp, i, none⟩)) := (hAt.put 9 101 d9 rfl).trans (congrArg some (hC 9 _ d9 rfl))
     have d8 : L_ 8 = true := List.all_eq_true.1 hdep 8 (List.contains_iff_mem.1 (by kernel_rfl))
     obtain ⟨r, hr⟩ := hI.row8 d8
     have E8 : bb.tmps[100]? = some (.slice (some ⟨r, 0, none⟩) 3 3) := (hAt.put 8 100 d8 rfl).trans (congrArg some hr)
     obtain ⟨u0, cc1, f1⟩ := hI.cellP i HI.out
     obtain rfl := Option.some.inj ho
     unfold Oper.wp
     go_simp
     have z := hI.st10 d8 hL HI.out hPs hQgp hgpW
     rw [hr] at z
     refine hK undef _ ⟨Rgn.consts_step hC 10 _ (fun u hu => by cases hu), ?_⟩
     show Inv16 _ _ _ _ _ _ _ _ _ _ _ _ _ _ _ _ _ _ _ _ _ _ _ (L_ 8) true (V 8) _
     rw [hr]
     exact z
    | n + 11, ho, hL, hdep, hK => cases ho
   rintro V w7 ⟨hC, hI⟩
   obtain ⟨hbA, hnA, rA, e8, krA, lrA, TA⟩ := hI.fin (by kernel_rfl)
   have hV0 := hC 0 _ (by kernel_rfl) rfl
   have hV1 := hC 1 _ (by kernel_rfl) rfl
   have hV2 := hC 2 _ (by kernel_rfl) rfl
   have hV3 := hC 3 _ (by kernel_rfl) rfl
   have hV4 := hC 4 _ (by kernel_rfl) rfl
   have hV5 := hC 5 _ (by kernel_rfl) rfl
   have hV6 := hC 6 _ (by kernel_rfl) rfl
   have hV7 := hC 7 _ (by kernel_rfl) rfl
   have hV9 := hC 9 _ (by kernel_rfl) rfl
   clear hC hI
   change Exit.then _ _ Exit.normal (Rgn.upTo _ _ V 11) w7
   simp only [Rgn.upTo, Rgn.dst, hV0, hV1, hV2, hV3, hV4, hV5, hV6, hV7, hV9, e8, Act.put, List.setIfInBounds_toArray, List.set_cons_zero, List.set_cons_succ, List.getElem?_toArray, List.getElem?_cons_zero, List.getElem?_cons_succ, Option.bind_some, Option.bind_none]
   clear e8 hV0 hV1 hV2 hV3 hV4 hV5 hV6 hV7 hV9
   obtain ⟨okP1, hokP1⟩ : ∃ f : Nat → Prop, f = fun k => okP k ∨ k = rA := ⟨_, rfl⟩
   rw [← hokP1] at TA
   have hP17 : ∀ k, okP1 k → k < w7.heap.size := fun k hk => by rw [hokP1] at hk; exact hk.elim (fun hk => Nat.lt_of_lt_of_le (hPs k hk) hnA) (fun hk => hk ▸ lrA)
   go_wp2_with fail
   refine region_inv (fun L_ V w' => (∀ s u, L_ s = true → oneCst (.pointer (some ⟨p, 1, none⟩)) (.slice (some ⟨gp, 0, none⟩) L.length g1) (.slice (some ⟨ga, 0, none⟩) 2 cv) (.pointer (some ⟨ga, 1, none⟩)) (.int .i64 (j : Int)) (.int .i64 e) (.int .i64 b) (.int .i64 c) (.pointer (some ⟨gp, j, none⟩)) s = some u → V s = u) ∧ Inv16 W5.heap.size w7.heap.size W5 okR okP1 okT okQ G0 g0 gp g1 G2 g2 gq g3 p q l L.length (L.set i [e, d, a]) L j [e, b, c] (L_ 8) (L_ 10) (V 8) w') (by kernel_rfl) (by kernel_rfl) ?h0B ?stepB ?finB
   case h0B => exact ⟨(fun s u h => by cases h), Inv16.start TA.drew (below_drew1 hbA) (Nat.le_refl _)⟩
   case stepB =>
    intro i_ o ho L_ V bb w' hL hdep hAt hI K hK
    obtain ⟨hC, hI⟩ := hI
    have bp := hI.bp
    have y1 := (blk_cell bp 1).trans rfl
    have zz := (hI.1.cell (World.block_lt_of_cell? W5 _ Z1.out)).trans Z1.out
    match i_, ho, hL, hdep, hK with
    | 0, ho, hL, hdep, hK =>
     have E16 : bb.tmps[16]? = some (.pointer (some ⟨p, 0, none⟩)) := (hAt.keeps (by kernel_rfl)).trans rfl
     obtain rfl := Option.some.inj ho
     unfold Oper.wp
     go_simp
     exact hK (.pointer (some ⟨p, 1, none⟩)) w' ⟨Rgn.consts_step hC 0 _ (fun u hu => Option.some.inj hu), hI⟩
    | 1, ho, hL, hdep, hK =>
     have d0 : L_ 0 = true := List.all_eq_true.1 hdep 0 (List.contains_iff_mem.1 (by kernel_rfl))
     have E0 : bb.tmps[102]? = some (.pointer (some ⟨p, 1, none⟩)) := (hAt.put 0 102 d0 rfl).trans (congrArg some (hC 0 _ d0 rfl))
     obtain rfl := Option.some.inj ho
     unfold Oper.wp
     go_simp
     exact hK (.slice (some ⟨gp, 0, none⟩) L.length g1) w' ⟨Rgn.consts_step hC 1 _ (fun u hu => Option.some.inj hu), hI⟩
    | 2, ho, hL, hdep, hK =>
     have E6 : bb.tmps[6]? = some (.slice (some ⟨ga, 0, none⟩) 2 cv) := (hAt.keeps (by kernel_rfl)).trans rfl
     obtain rfl := Option.some.inj ho
     unfold Oper.wp
     go_simp
     exact hK (.slice (some ⟨ga, 0, none⟩) 2 cv) w' ⟨Rgn.consts_step hC 2 _ (fun u hu => Option.some.inj hu), hI⟩
    | 3, ho, hL, hdep, hK =>
     have d2 : L_ 2 = true := List.all_eq_true.1 hdep 2 (List.contains_iff_mem.1 (by kernel_rfl))
     have E2 : bb.tmps[104]? = some (.slice (some ⟨ga, 0, none⟩) 2 cv) := (hAt.put 2 104 d2 rfl).trans (congrArg some (hC 2 _ d2 rfl))
     obtain rfl := Option.some.inj ho
     unfold Oper.wp
     go_simp
     exact hK (.pointer (some ⟨ga, 1, none⟩)) w' ⟨Rgn.consts_step hC 3 _ (fun u hu => Option.some.inj hu), hI⟩
    | 4, ho, hL, hdep, hK =>
     have d3 : L_ 3 = true := List.all_eq_true.1 hdep 3 (List.contains_iff_mem.1 (by kernel_rfl))
     have E3 : bb.tmps[105]? = some (.pointer (some ⟨ga, 1, none⟩)) := (hAt.put 3 105 d3 rfl).trans (congrArg some (hC 3 _ d3 rfl))
     obtain rfl := Option.some.inj ho
     unfold Oper.wp
     go_simp
     exact hK (.int .i64 (j : Int)) w' ⟨Rgn.consts_step hC 4 _ (fun u hu => Option.some.inj hu), hI⟩
    | 5, ho, hL, hdep, hK =>
     have E1 : bb.tmps[1]? = some (.int .i64 e) := (hAt.keeps (by kernel_rfl)).trans rfl
     obtain rfl := Option.some.inj ho
     unfold Oper.wp
     go_simp
     exact hK (.int .i64 e) w' ⟨Rgn.consts_step hC 5 _ (fun u hu => Option.some.inj hu), hI⟩
    | 6, ho, hL, hdep, hK =>
     have E13 : bb.tmps[13]? = some (.int .i64 b) := (hAt.keeps (by kernel_rfl)).trans rfl
     obtain rfl := Option.some.inj ho
     unfold Oper.wp
     go_simp
     exact hK (.int .i64 b) w' ⟨Rgn.consts_step hC 6 _ (fun u hu => Option.some.inj hu), hI⟩
    | 7, ho, hL, hdep, hK =>
     have E14 : bb.tmps[14]? = some (.int .i64 c) := (hAt.keeps (by kernel_rfl)).trans rfl
     obtain rfl := Option.some.inj ho
     unfold Oper.wp
     go_simp
     exact hK (.int .i64 c) w' ⟨Rgn.consts_step hC 7 _ (fun u hu => Option.some.inj hu), hI⟩
    | 8, ho, hL, hdep, hK =>
     have d5 : L_ 5 = true := List.all_eq_true.1 hdep 5 (List.contains_iff_mem.1 (by kernel_rfl))
     have E5 : bb.tmps[107]? = some (.int .i64 e) := (hAt.put 5 107 d5 rfl).trans (congrArg some (hC 5 _ d5 rfl))
     have d6 : L_ 6 = true := List.all_eq_true.1 hdep 6 (List.contains_iff_mem.1 (by kernel_rfl))
     have E6 : bb.tmps[108]? = some (.int .i64 b) := (hAt.put 6 108 d6 rfl).trans (congrArg some (hC 6 _ d6 rfl))
     have d7 : L_ 7 = true := List.all_eq_true.1 hdep 7 (List.contains_iff_mem.1 (by kernel_rfl))
     have E7 : bb.tmps[109]? = some (.int .i64 c) := (hAt.put 7 109 d7 rfl).trans (congrArg some (hC 7 _ d7 rfl))
     obtain rfl := Option.some.inj ho
     unfold Oper.wp
     go_simp
     exact hK _ _ ⟨Rgn.consts_step hC 8 _ (fun u hu => by cases hu), hI.mk8 hL hbA.size⟩
    | 9, ho, hL, hdep, hK =>
     have d1 : L_ 1 = true := List.all_eq_true.1 hdep 1 (List.contains_iff_mem.1 (by kernel_rfl))
     have E1 : bb.tmps[103]? = some (.slice (some ⟨gp, 0, none⟩) L.length g1) := (hAt.put 1 103 d1 rfl).trans (congrArg some (hC 1 _ d1 rfl))
     have d4 : L_ 4 = true := List.all_eq_true.1 hdep 4 (List.contains_iff_mem.1 (by kernel_rfl))
     have E4 : bb.tmps[106]? = some (.int .i64 (j : Int)) := (hAt.put 4 106 d4 rfl).trans (congrArg some (hC 4 _ d4 rfl))
     have g1 : decide ((j : Int) < (L.length : Int)) = true := decide_eq_true (by have := HJ.out; omega)
     have g2 : decide (j < L.length) = true := decide_eq_true HJ.out
     have g3 := add_plain gp j
     have g4 := HJ.out
     obtain rfl := Option.some.inj ho
     unfold Oper.wp
     go_simp
     exact hK (.pointer (some ⟨gp, j, none⟩)) w' ⟨Rgn.consts_step hC 9 _ (fun u hu => Option.some.inj hu), hI⟩
    | 10, ho, hL, hdep, hK =>
     have d9 : L_ 9 = true := List.all_eq_true.1 hdep 9 (List.contains_iff_mem.1 (by kernel_rfl))
     have E9 : bb.tmps[111]? = some (.pointer (some ⟨gp, j, none⟩)) := (hAt.put 9 111 d9 rfl).trans (congrArg some (hC 9 _ d9 rfl))
     have d8 : L_ 8 = true := List.all_eq_true.1 hdep 8 (List.contains_iff_mem.1 (by kernel_rfl))
     obtain ⟨r, hr⟩ := hI.row8 d8
     have E8 : bb.tmps[110]? = some (.slice (some ⟨r, 0, none⟩) 3 3) := (hAt.put 8 110 d8 rfl).trans (congrArg some hr)
     obtain ⟨u0, cc1, f1⟩ := hI.cellP j HJ.out
     obtain rfl := Option.some.inj ho
     unfold Oper.wp
     go_simp
     have z := hI.st10 d8 hL HJ.out hP17 hQgp hgpW
     rw [hr] at z
     refine hK undef _ ⟨Rgn.consts_step hC 10 _ (fun u hu => by cases hu), ?_⟩
     show Inv16 _ _ _ _ _ _ _ _ _ _ _ _ _ _ _ _ _ _ _ _ _ _ _ (L_ 8) true (V 8) _
     rw [hr]
     exact z
    | n + 11, ho, hL, hdep, hK => cases ho
   rintro V w8 ⟨hC, hI⟩
   obtain ⟨hbB, hnB, rB, e8, krB, lrB, TB⟩ := hI.fin (by kernel_rfl)
   have hV0 := hC 0 _ (by kernel_rfl) rfl
   have hV1 := hC 1 _ (by kernel_rfl) rfl
   have hV2 := hC 2 _ (by kernel_rfl) rfl
   have hV3 := hC 3 _ (by kernel_rfl) rfl
   have hV4 := hC 4 _ (by kernel_rfl) rfl
   have hV5 := hC 5 _ (by kernel_rfl) rfl
   have hV6 := hC 6 _ (by kernel_rfl) rfl
   have hV7 := hC 7 _ (by kernel_rfl) rfl
   have hV9 := hC 9 _ (by kernel_rfl) rfl
   clear hC hI
   change Exit.then _ _ Exit.normal (Rgn.upTo _ _ V 11) w8
   simp only [Rgn.upTo, Rgn.dst, hV0, hV1, hV2, hV3, hV4, hV5, hV6, hV7, hV9, e8, Act.put, List.setIfInBounds_toArray, List.set_cons_zero, List.set_cons_succ, List.getElem?_toArray, List.getElem?_cons_zero, List.getElem?_cons_succ, Option.bind_some, Option.bind_none]
   clear e8 hV0 hV1 hV2 hV3 hV4 hV5 hV6 hV7 hV9
   obtain ⟨okP2, hokP2⟩ : ∃ f : Nat → Prop, f = fun k => okP1 k ∨ k = rB := ⟨_, rfl⟩
   rw [← hokP2] at TB
   have hP2gq : ∀ k, okP2 k → k ≠ gq := fun k hk => by rw [hokP2, hokP1] at hk; exact hk.elim (fun hk => (hk.elim (fun hk => hPgq k hk) (fun hk => by omega))) (fun hk => by omega)
   have hQ8 : ∀ k, okQ k → k < w8.heap.size := fun k hk => Nat.lt_of_lt_of_le (hQs k hk) (Nat.le_trans hnA hnB)
   go_wp2_with fail
   refine region_inv (fun L_ V w' => (∀ s u, L_ s = true → oneCst (.pointer (some ⟨q, 1, none⟩)) (.slice (some ⟨gq, 0, none⟩) L.length g3) (.slice (some ⟨ga, 0, none⟩) 2 cv) (.pointer (some ⟨ga, 0, none⟩)) (.int .i64 (i : Int)) (.int .i64 e) (.int .i64 d) (.int .i64 b) (.pointer (some ⟨gq, i, none⟩)) s = some u → V s = u) ∧ Inv16 W5.heap.size w8.heap.size W5 okT okQ okR okP2 G2 g2 gq g3 G0 g0 gp g1 q p l L.length L ((L.set i [e, d, a]).set j [e, b, c]) i [e, d, b] (L_ 8) (L_ 10) (V 8) w') (by kernel_rfl) (by kernel_rfl) ?h0C ?stepC ?finC
   case h0C => exact ⟨(fun s u h => by cases h), Inv16.start TB.swap.drew (below_drew1 hbB) (Nat.le_refl _)⟩
   case stepC =>
    intro i_ o ho L_ V bb w' hL hdep hAt hI K hK
    obtain ⟨hC, hI⟩ := hI
    have bp := hI.bp
    have y1 := (blk_cell bp 1).trans rfl
    have zz := (hI.1.cell (World.block_lt_of_cell? W5 _ Z0.out)).trans Z0.out
    match i_, ho, hL, hdep, hK with
    | 0, ho, hL, hdep, hK =>
     have E17 : bb.tmps[17]? = some (.pointer (some ⟨q, 0, none⟩)) := (hAt.keeps (by kernel_rfl)).trans rfl
     obtain rfl := Option.some.inj ho
     unfold Oper.wp
     go_simp
     exact hK (.pointer (some ⟨q, 1, none⟩)) w' ⟨Rgn.consts_step hC 0 _ (fun u hu => Option.some.inj hu), hI⟩
    | 1, ho, hL, hdep, hK =>
     have d0 : L_ 0 = true := List.all_eq_true.1 hdep 0 (List.contains_iff_mem.1 (by kernel_rfl))
     have E0 : bb.tmps[112]? = some (.pointer (some ⟨q, 1, none⟩)) := (hAt.put 0 112 d0 rfl).trans (congrArg some (hC 0 _ d0 rfl))
     obtain rfl := Option.some.inj ho
     unfold Oper.wp
     go_simp
     exact hK (.slice (some ⟨gq, 0, none⟩) L.length g3) w' ⟨Rgn.consts_step hC 1 _ (fun u hu => Option.some.inj hu), hI⟩
    | 2, ho, hL, hdep, hK =>
     have E6 : bb.tmps[6]? = some (.slice (some ⟨ga, 0, none⟩) 2 cv) := (hAt.keeps (by kernel_rfl)).trans rfl
     obtain rfl := Option.some.inj ho
     unfold Oper.wp
     go_simp
     exact hK (.slice (some ⟨ga, 0, none⟩) 2 cv) w' ⟨Rgn.consts_step hC 2 _ (fun u hu => Option.some.inj hu), hI⟩
    | 3, ho, hL, hdep, hK =>
     have d2 : L_ 2 = true := List.all_eq_true.1 hdep 2 (List.contains_iff_mem.1 (by kernel_rfl))
     have E2 : bb.tmps[114]? = some (.slice (some ⟨ga, 0, none⟩) 2 cv) := (hAt.put 2 114 d2 rfl).trans (congrArg some (hC 2 _ d2 rfl))
     obtain rfl := Option.some.inj ho
     unfold Oper.wp
     go_simp
     exact hK (.pointer (some ⟨ga, 0, none⟩)) w' ⟨Rgn.consts_step hC 3 _ (fun u hu => Option.some.inj hu), hI⟩
    | 4, ho, hL, hdep, hK =>
     have d3 : L_ 3 = true := List.all_eq_true.1 hdep 3 (List.contains_iff_mem.1 (by kernel_rfl))
     have E3 : bb.tmps[115]? = some (.pointer (some ⟨ga, 0, none⟩)) := (hAt.put 3 115 d3 rfl).trans (congrArg some (hC 3 _ d3 rfl))
     obtain rfl := Option.some.inj ho
     unfold Oper.wp
     go_simp
     exact hK (.int .i64 (i : Int)) w' ⟨Rgn.consts_step hC 4 _ (fun u hu => Option.some.inj hu), hI⟩
    | 5, ho, hL, hdep, hK =>
     have E1 : bb.tmps[1]? = some (.int .i64 e) := (hAt.keeps (by kernel_rfl)).trans rfl
     obtain rfl := Option.some.inj ho
     unfold Oper.wp
     go_simp
     exact hK (.int .i64 e) w' ⟨Rgn.consts_step hC 5 _ (fun u hu => Option.some.inj hu), hI⟩
    | 6, ho, hL, hdep, hK =>
     have E15 : bb.tmps[15]? = some (.int .i64 d) := (hAt.keeps (by kernel_rfl)).trans rfl
     obtain rfl := Option.some.inj ho
     unfold Oper.wp
     go_simp
     exact hK (.int .i64 d) w' ⟨Rgn.consts_step hC 6 _ (fun u hu => Option.some.inj hu), hI⟩
    | 7, ho, hL, hdep, hK =>
     have E13 : bb.tmps[13]? = some (.int .i64 b) := (hAt.keeps (by kernel_rfl)).trans rfl
     obtain rfl := Option.some.inj ho
     unfold Oper.wp
     go_simp
     exact hK (.int .i64 b) w' ⟨Rgn.consts_step hC 7 _ (fun u hu => Option.some.inj hu), hI⟩
    | 8, ho, hL, hdep, hK =>
     have d5 : L_ 5 = true := List.all_eq_true.1 hdep 5 (List.contains_iff_mem.1 (by kernel_rfl))
     have E5 : bb.tmps[117]? = some (.int .i64 e) := (hAt.put 5 117 d5 rfl).trans (congrArg some (hC 5 _ d5 rfl))
     have d6 : L_ 6 = true := List.all_eq_true.1 hdep 6 (List.contains_iff_mem.1 (by kernel_rfl))
     have E6 : bb.tmps[118]? = some (.int .i64 d) := (hAt.put 6 118 d6 rfl).trans (congrArg some (hC 6 _ d6 rfl))
     have d7 : L_ 7 = true := List.all_eq_true.1 hdep 7 (List.contains_iff_mem.1 (by kernel_rfl))
     have E7 : bb.tmps[119]? = some (.int .i64 b) := (hAt.put 7 119 d7 rfl).trans (congrArg some (hC 7 _ d7 rfl))
     obtain rfl := Option.some.inj ho
     unfold Oper.wp
     go_simp
     exact hK _ _ ⟨Rgn.consts_step hC 8 _ (fun u hu => by cases hu), hI.mk8 hL hbB.size⟩
    | 9, ho, hL, hdep, hK =>
     have d1 : L_ 1 = true := List.all_eq_true.1 hdep 1 (List.contains_iff_mem.1 (by kernel_rfl))
     have E1 : bb.tmps[113]? = some (.slice (some ⟨gq, 0, none⟩) L.length g3) := (hAt.put 1 113 d1 rfl).trans (congrArg some (hC 1 _ d1 rfl))
     have d4 : L_ 4 = true := List.all_eq_true.1 hdep 4 (List.contains_iff_mem.1 (by kernel_rfl))
     have E4 : bb.tmps[116]? = some (.int .i64 (i : Int)) := (hAt.put 4 116 d4 rfl).trans (congrArg some (hC 4 _ d4 rfl))
     have g1 : decide ((i : Int) < (L.length : Int)) = true := decide_eq_true (by have := HI.out; omega)
     have g2 : decide (i < L.length) = true := decide_eq_true HI.out
     have g3 := add_plain gq i
     have g4 := HI.out
     obtain rfl := Option.some.inj ho
     unfold Oper.wp
     go_simp
     exact hK (.pointer (some ⟨gq, i, none⟩)) w' ⟨Rgn.consts_step hC 9 _ (fun u hu => Option.some.inj hu), hI⟩
    | 10, ho, hL, hdep, hK =>
     have d9 : L_ 9 = true := List.all_eq_true.1 hdep 9 (List.contains_iff_mem.1 (by kernel_rfl))
     have E9 : bb.tmps[121]? = some (.pointer (some ⟨gq, i, none⟩)) := (hAt.put 9 121 d9 rfl).trans (congrArg some (hC 9 _ d9 rfl))
     have d8 : L_ 8 = true := List.all_eq_true.1 hdep 8 (List.contains_iff_mem.1 (by kernel_rfl))
     obtain ⟨r, hr⟩ := hI.row8 d8
     have E8 : bb.tmps[120]? = some (.slice (some ⟨r, 0, none⟩) 3 3) := (hAt.put 8 120 d8 rfl).trans (congrArg some hr)
     obtain ⟨u0, cc1, f1⟩ := hI.cellP i HI.out
     obtain rfl := Option.some.inj ho
     unfold Oper.wp
     go_simp
     have z := hI.st10 d8 hL HI.out hQ8 hP2gq hgqW
     rw [hr] at z
     refine hK undef _ ⟨Rgn.consts_step hC 10 _ (fun u hu => by cases hu), ?_⟩
     show Inv16 _ _ _ _ _ _ _ _ _ _ _ _ _ _ _ _ _ _ _ _ _ _ _ (L_ 8) true (V 8) _
     rw [hr]
     exact z
    | n + 11, ho, hL, hdep, hK => cases ho
   rintro V w9 ⟨hC, hI⟩
   obtain ⟨hbC, hnC, rC, e8, krC, lrC, TC⟩ := hI.fin (by kernel_rfl)
   have hV0 := hC 0 _ (by kernel_rfl) rfl
   have hV1 := hC 1 _ (by kernel_rfl) rfl
   have hV2 := hC 2 _ (by kernel_rfl) rfl
   have hV3 := hC 3 _ (by kernel_rfl) rfl
   have hV4 := hC 4 _ (by kernel_rfl) rfl
   have hV5 := hC 5 _ (by kernel_rfl) rfl
   have hV6 := hC 6 _ (by kernel_rfl) rfl
   have hV7 := hC 7 _ (by kernel_rfl) rfl
   have hV9 := hC 9 _ (by kernel_rfl) rfl
   clear hC hI
   change Exit.then _ _ Exit.normal (Rgn.upTo _ _ V 11) w9
   simp only [Rgn.upTo, Rgn.dst, hV0, hV1, hV2, hV3, hV4, hV5, hV6, hV7, hV9, e8, Act.put, List.setIfInBounds_toArray, List.set_cons_zero, List.set_cons_succ, List.getElem?_toArray, List.getElem?_cons_zero, List.getElem?_cons_succ, Option.bind_some, Option.bind_none]
   clear e8 hV0 hV1 hV2 hV3 hV4 hV5 hV6 hV7 hV9
   obtain ⟨okQ1, hokQ1⟩ : ∃ f : Nat → Prop, f = fun k => okQ k ∨ k = rC := ⟨_, rfl⟩
   rw [← hokQ1] at TC
   have hQ19 : ∀ k, okQ1 k → k < w9.heap.size := fun k hk => by rw [hokQ1] at hk; exact hk.elim (fun hk => Nat.lt_of_lt_of_le (hQ8 k hk) hnC) (fun hk => hk ▸ lrC)
   go_wp2_with fail
   refine region_inv (fun L_ V w' => (∀ s u, L_ s = true → oneCst (.pointer (some ⟨q, 1, none⟩)) (.slice (some ⟨gq, 0, none⟩) L.length g3) (.slice (some ⟨ga, 0, none⟩) 2 cv) (.pointer (some ⟨ga, 1, none⟩)) (.int .i64 (j : Int)) (.int .i64 e) (.int .i64 c) (.int .i64 a) (.pointer (some ⟨gq, j, none⟩)) s = some u → V s = u) ∧ Inv16 W5.heap.size w9.heap.size W5 okT okQ1 okR okP2 G2 g2 gq g3 G0 g0 gp g1 q p l L.length (L.set i [e, d, b]) ((L.set i [e, d, a]).set j [e, b, c]) j [e, c, a] (L_ 8) (L_ 10) (V 8) w') (by kernel_rfl) (by kernel_rfl) ?h0D ?stepD ?finD
   case h0D => exact ⟨(fun s u h => by cases h), Inv16.start TC.drew (below_drew1 hbC) (Nat.le_refl _)⟩
   case stepD =>
    intro i_ o ho L_ V bb w' hL hdep hAt hI K hK
    obtain ⟨hC, hI⟩ := hI
    have bp := hI.bp
    have y1 := (blk_cell bp 1).trans rfl
    have zz := (hI.1.cell (World.block_lt_of_cell? W5 _ Z1.out)).trans Z1.out
    match i_, ho, hL, hdep, hK with
    | 0, ho, hL, hdep, hK =>
     have E17 : bb.tmps[17]? = some (.pointer (some ⟨q, 0, none⟩)) := (hAt.keeps (by kernel_rfl)).trans rfl
     obtain rfl := Option.some.inj ho
     unfold Oper.wp
     go_simp
     exact hK (.pointer (some ⟨q, 1, none⟩)) w' ⟨Rgn.consts_step hC 0 _ (fun u hu => Option.some.inj hu), hI⟩
    | 1, ho, hL, hdep, hK =>
     have d0 : L_ 0 = true := List.all_eq_true.1 hdep 0 (List.contains_iff_mem.1 (by kernel_rfl))
     have E0 : bb.tmps[122]? = some (.pointer (some ⟨q, 1, none⟩)) := (hAt.put 0 122 d0 rfl).trans (congrArg some (hC 0 _ d0 rfl))
     obtain rfl := Option.some.inj ho
     unfold Oper.wp
     go_simp
     exact hK (.slice (some ⟨gq, 0, none⟩) L.length g3) w' ⟨Rgn.consts_step hC 1 _ (fun u hu => Option.some.inj hu), hI⟩
    | 2, ho, hL, hdep, hK =>
     have E6 : bb.tmps[6]? = some (.slice (some ⟨ga, 0, none⟩) 2 cv) := (hAt.keeps (by kernel_rfl)).trans rfl
     obtain rfl := Option.some.inj ho
     unfold Oper.wp
     go_simp
     exact hK (.slice (some ⟨ga, 0, none⟩) 2 cv) w' ⟨Rgn.consts_step hC 2 _ (fun u hu => Option.some.inj hu), hI⟩
    | 3, ho, hL, hdep, hK =>
     have d2 : L_ 2 = true := List.all_eq_true.1 hdep 2 (List.contains_iff_mem.1 (by kernel_rfl))
     have E2 : bb.tmps[124]? = some (.slice (some ⟨ga, 0, none⟩) 2 cv) := (hAt.put 2 124 d2 rfl).trans (congrArg some (hC 2 _ d2 rfl))
     obtain rfl := Option.some.inj ho
     unfold Oper.wp
     go_simp
     exact hK (.pointer (some ⟨ga, 1, none⟩)) w' ⟨Rgn.consts_step hC 3 _ (fun u hu => Option.some.inj hu), hI⟩
    | 4, ho, hL, hdep, hK =>
     have d3 : L_ 3 = true := List.all_eq_true.1 hdep 3 (List.contains_iff_mem.1 (by kernel_rfl))
     have E3 : bb.tmps[125]? = some (.pointer (some ⟨ga, 1, none⟩)) := (hAt.put 3 125 d3 rfl).trans (congrArg some (hC 3 _ d3 rfl))
     obtain rfl := Option.some.inj ho
     unfold Oper.wp
     go_simp
     exact hK (.int .i64 (j : Int)) w' ⟨Rgn.consts_step hC 4 _ (fun u hu => Option.some.inj hu), hI⟩
    | 5, ho, hL, hdep, hK =>
     have E1 : bb.tmps[1]? = some (.int .i64 e) := (hAt.keeps (by kernel_rfl)).trans rfl
     obtain rfl := Option.some.inj ho
     unfold Oper.wp
     go_simp
     exact hK (.int .i64 e) w' ⟨Rgn.consts_step hC 5 _ (fun u hu => Option.some.inj hu), hI⟩
    | 6, ho, hL, hdep, hK =>
     have E14 : bb.tmps[14]? = some (.int .i64 c) := (hAt.keeps (by kernel_rfl)).trans rfl
     obtain rfl := Option.some.inj ho
     unfold Oper.wp
     go_simp
     exact hK (.int .i64 c) w' ⟨Rgn.consts_step hC 6 _ (fun u hu => Option.some.inj hu), hI⟩
    | 7, ho, hL, hdep, hK =>
     have E12 : bb.tmps[12]? = some (.int .i64 a) := (hAt.keeps (by kernel_rfl)).trans rfl
     obtain rfl := Option.some.inj ho
     unfold Oper.wp
     go_simp
     exact hK (.int .i64 a) w' ⟨Rgn.consts_step hC 7 _ (fun u hu => Option.some.inj hu), hI⟩
    | 8, ho, hL, hdep, hK =>
     have d5 : L_ 5 = true := List.all_eq_true.1 hdep 5 (List.contains_iff_mem.1 (by kernel_rfl))
     have E5 : bb.tmps[127]? = some (.int .i64 e) := (hAt.put 5 127 d5 rfl).trans (congrArg some (hC 5 _ d5 rfl))
     have d6 : L_ 6 = true := List.all_eq_true.1 hdep 6 (List.contains_iff_mem.1 (by kernel_rfl))
     have E6 : bb.tmps[128]? = some (.int .i64 c) := (hAt.put 6 128 d6 rfl).trans (congrArg some (hC 6 _ d6 rfl))
     have d7 : L_ 7 = true := List.all_eq_true.1 hdep 7 (List.contains_iff_mem.1 (by kernel_rfl))
     have E7 : bb.tmps[129]? = some (.int .i64 a) := (hAt.put 7 129 d7 rfl).trans (congrArg some (hC 7 _ d7 rfl))
     obtain rfl := Option.some.inj ho
     unfold Oper.wp
     go_simp
     exact hK _ _ ⟨Rgn.consts_step hC 8 _ (fun u hu => by cases hu), hI.mk8 hL hbC.size⟩
    | 9, ho, hL, hdep, hK =>
     have d1 : L_ 1 = true := List.all_eq_true.1 hdep 1 (List.contains_iff_mem.1 (by kernel_rfl))
     have E1 : bb.tmps[123]? = some (.slice (some ⟨gq, 0, none⟩) L.length g3) := (hAt.put 1 123 d1 rfl).trans (congrArg some (hC 1 _ d1 rfl))
     have d4 : L_ 4 = true := List.all_eq_true.1 hdep 4 (List.contains_iff_mem.1 (by kernel_rfl))
     have E4 : bb.tmps[126]? = some (.int .i64 (j : Int)) := (hAt.put 4 126 d4 rfl).trans (congrArg some (hC 4 _ d4 rfl))
     have g1 : decide ((j : Int) < (L.length : Int)) = true := decide_eq_true (by have := HJ.out; omega)
     have g2 : decide (j < L.length) = true := decide_eq_true HJ.out
     have g3 := add_plain gq j
     have g4 := HJ.out
     obtain rfl := Option.some.inj ho
     unfold Oper.wp
     go_simp
     exact hK (.pointer (some ⟨gq, j, none⟩)) w' ⟨Rgn.consts_step hC 9 _ (fun u hu => Option.some.inj hu), hI⟩
    | 10, ho, hL, hdep, hK =>
     have d9 : L_ 9 = true := List.all_eq_true.1 hdep 9 (List.contains_iff_mem.1 (by kernel_rfl))
     have E9 : bb.tmps[131]? = some (.pointer (some ⟨gq, j, none⟩)) := (hAt.put 9 131 d9 rfl).trans (congrArg some (hC 9 _ d9 rfl))
     have d8 : L_ 8 = true := List.all_eq_true.1 hdep 8 (List.contains_iff_mem.1 (by kernel_rfl))
     obtain ⟨r, hr⟩ := hI.row8 d8
     have E8 : bb.tmps[130]? = some (.slice (some ⟨r, 0, none⟩) 3 3) := (hAt.put 8 130 d8 rfl).trans (congrArg some hr)
     obtain ⟨u0, cc1, f1⟩ := hI.cellP j HJ.out
     obtain rfl := Option.some.inj ho
     unfold Oper.wp
     go_simp
     have z := hI.st10 d8 hL HJ.out hQ19 hP2gq hgqW
     rw [hr] at z
     refine hK undef _ ⟨Rgn.consts_step hC 10 _ (fun u hu => by cases hu), ?_⟩
     show Inv16 _ _ _ _ _ _ _ _ _ _ _ _ _ _ _ _ _ _ _ _ _ _ _ (L_ 8) true (V 8) _
     rw [hr]
     exact z
    | n + 11, ho, hL, hdep, hK => cases ho
   rintro V w10 ⟨hC, hI⟩
   obtain ⟨hbD, hnD, rD, e8, krD, lrD, TD⟩ := hI.fin (by kernel_rfl)
   have hV0 := hC 0 _ (by kernel_rfl) rfl
   have hV1 := hC 1 _ (by kernel_rfl) rfl
   have hV2 := hC 2 _ (by kernel_rfl) rfl
   have hV3 := hC 3 _ (by kernel_rfl) rfl
   have hV4 := hC 4 _ (by kernel_rfl) rfl
   have hV5 := hC 5 _ (by kernel_rfl) rfl
   have hV6 := hC 6 _ (by kernel_rfl) rfl
   have hV7 := hC 7 _ (by kernel_rfl) rfl
   have hV9 := hC 9 _ (by kernel_rfl) rfl
   clear hC hI
   change Exit.then _ _ Exit.normal (Rgn.upTo _ _ V 11) w10
   simp only [Rgn.upTo, Rgn.dst, hV0, hV1, hV2, hV3, hV4, hV5, hV6, hV7, hV9, e8, Act.put, List.setIfInBounds_toArray, List.set_cons_zero, List.set_cons_succ, List.getElem?_toArray, List.getElem?_cons_zero, List.getElem?_cons_succ, Option.bind_some, Option.bind_none]
   clear e8 hV0 hV1 hV2 hV3 hV4 hV5 hV6 hV7 hV9
   have b13 := TD.bq
   have b14 := TD.bp
   have u0_ := (blk_cell b13 0).trans rfl
   have u1_ := (blk_cell b13 1).trans rfl
   have u2_ := (blk_cell b14 0).trans rfl
   have u3_ := (blk_cell b14 1).trans rfl
   have TD2 := TD.swap.alloc (.cells #[.slice G0 l.length g0, .slice (some ⟨gp, 0, none⟩) L.length g1, .slice G2 l.length g2, .slice (some ⟨gq, 0, none⟩) L.length g3] 30)
   have hbD2 := below_alloc (below_step HB5.out hbD) (.cells #[.slice G0 l.length g0, .slice (some ⟨gp, 0, none⟩) L.length g1, .slice G2 l.length g2, .slice (some ⟨gq, 0, none⟩) L.length g3] 30)
   go_wp2_with fail
   go_ret2
   have z5 := HB5.out.size
   refine ⟨some ⟨w10.heap.size, 0, none⟩, rfl, ?_, hbD2⟩
   exact C_two (new_at rfl) (Kd.R_reads' TD2.r).2.2 (Kd.R_reads' TD2.r).2.1 (show Kd.C (Kd.slice 2 (Kd.int .i64)) _ (some ⟨gp, 0, none⟩) ((L.set i [e, d, a]).set j [e, b, c]).length ((L.set i [e, d, a]).set j [e, b, c]) from (Kd.S_reads' TD2.s).2.2) (by simp) (Kd.S_reads' TD2.s).2.1 (Kd.R_reads' TD2.t).2.2 (Kd.R_reads' TD2.t).2.1 (show Kd.C (Kd.slice 2 (Kd.int .i64)) _ (some ⟨gq, 0, none⟩) ((L.set i [e, d, b]).set j [e, c, a]).length ((L.set i [e, d, b]).set j [e, c, a]) from (Kd.S_reads' TD2.u).2.2) (by simp) (Kd.S_reads' TD2.u).2.1
  case step =>
   intro i_ o ho L_ V b w' hL hdep hAt hI K hK
   have E2 : b.tmps[2]? = some (.pointer (some ⟨w.heap.size, 0, none⟩)) := (hAt.keeps (by kernel_rfl)).trans rfl
   obtain ⟨p, q, m, hB, hm, h0, h2, h1, h3, h4, h5, hpq, o1, o2, o3⟩ := hI
   have q0 := (blk_cell (blk_below B5.out hB) 0).trans rfl
   have q1 := (blk_cell (blk_below B5.out hB) 1).trans rfl
   match i_, ho, hL, hdep, hK with
   | 0, ho, hL, hdep, hK =>
    obtain rfl := Option.some.inj ho
    unfold Oper.wp
    go_simp
    exact hK (.agg #[.slice A0 l.length c0, .slice (some ad) L.length c1]) w' ⟨p, q, m, hB, hm, fun _ => rfl, h2, h1, h3, h4, h5, hpq, o1, o2, o3⟩
   | 2, ho, hL, hdep, hK =>
    obtain rfl := Option.some.inj ho
    unfold Oper.wp
    go_simp
    exact hK (.agg #[.slice A0 l.length c0, .slice (some ad) L.length c1]) w' ⟨p, q, m, hB, hm, h0, fun _ => rfl, h1, h3, h4, h5, hpq, o1, o2, o3⟩
   | 1, ho, hL, hdep, hK =>
    have dd : L_ 0 = true := by simpa using (show ([0] : List Nat).all L_ = true from hdep)
    have E : b.tmps[88]? = some (V 0) := hAt.put 0 88 dd rfl
    rw [h0 dd] at E
    obtain rfl := Option.some.inj ho
    unfold Oper.wp
    go_simp
    refine (spec_l06Copy.calls kc A0 c0 l (some ad) c1 L l L _ (Kd.C_below HR0.out (below_step HB5.out hB)) HC0.out (Kd.C_below HR1.out (below_step HB5.out hB)) HC1.out H2.out).mono ?_
    rintro x w'' ⟨v0, v1, rfl, ho0, ho1, hb⟩
    have n3 : ∀ {X : Prop}, L_ 3 = true → X := fun h => absurd (o1 h) (by rw [hL]; decide)
    exact hK (.agg #[v0, v1]) w'' ⟨p, q, w''.heap.size, below_step hB hb, Nat.le_refl _, h0, h2, fun _ => ⟨v0, v1, rfl, Kd.R_lower (Kd.R_mono (Kd.R_bound ho0) (fun k hk => hk.2.2.1)) hB.size, Kd.S_lower (Kd.S_mono (Kd.S_bound ho1) (fun k hk => ⟨hk.1, hk.2.2.1⟩)) hB.size⟩, fun h => n3 h, fun h => ⟨(h4 h).1, (h4 h).2.1, Nat.lt_of_lt_of_le (h4 h).2.2.1 hb.size, fun z => blk_below ((h4 h).2.2.2.1 z) hb, fun z => n3 (o2 z).2⟩, fun h => ⟨(h5 h).1, (h5 h).2.1, Nat.lt_of_lt_of_le (h5 h).2.2.1 hb.size, fun z => blk_below ((h5 h).2.2.2.1 z) hb, fun z v0 v1 hv => blk_below ((h5 h).2.2.2.2 z v0 v1 hv) hb⟩, hpq, fun _ => rfl, fun z => n3 (o2 z).2, fun z => n3 (o3 z).2⟩
   | 3, ho, hL, hdep, hK =>
    have dd : L_ 2 = true ∧ L_ 1 = true := by simpa using (show ([2, 1] : List Nat).all L_ = true from hdep)
    have E : b.tmps[90]? = some (V 2) := hAt.put 2 90 dd.1 rfl
    rw [h2 dd.1] at E
    obtain rfl := Option.some.inj ho
    unfold Oper.wp
    go_simp
    refine (spec_l06Copy.calls kc A0 c0 l (some ad) c1 L l L _ (Kd.C_below HR0.out (below_step HB5.out hB)) HC0.out (Kd.C_below HR1.out (below_step HB5.out hB)) HC1.out H2.out).mono ?_
    rintro x w'' ⟨v0, v1, rfl, ho0, ho1, hb⟩
    have n6 : ∀ {X : Prop}, L_ 6 = true → X := fun h => absurd (o2 h).2 (by rw [hL]; decide)
    have n7 : ∀ {X : Prop}, L_ 7 = true → X := fun h => absurd (o3 h).2 (by rw [hL]; decide)
    exact hK (.agg #[v0, v1]) w'' ⟨p, q, m, below_step hB hb, Nat.le_trans hm hb.size, h0, h2, fun h => (h1 h).imp fun v0 h => h.imp fun v1 h => ⟨h.1, Kd.R_below h.2.1 hb, Kd.S_below h.2.2 hb⟩, fun _ => ⟨v0, v1, rfl, Kd.R_lower (Kd.R_mono (Kd.R_bound ho0) (fun k hk => Nat.le_trans hm hk.2.1)) hB.size, Kd.S_lower (Kd.S_mono (Kd.S_bound ho1) (fun k hk => ⟨hk.1, Nat.le_trans hm hk.2.1⟩)) hB.size⟩, fun h => ⟨(h4 h).1, (h4 h).2.1, Nat.lt_of_lt_of_le (h4 h).2.2.1 hb.size, fun z => blk_below ((h4 h).2.2.2.1 z) hb, fun z => n6 z⟩, fun h => ⟨(h5 h).1, (h5 h).2.1, Nat.lt_of_lt_of_le (h5 h).2.2.1 hb.size, fun z => blk_below ((h5 h).2.2.2.1 z) hb, fun z => n7 z⟩, hpq, fun _ => dd.2, fun z => n6 z, fun z => n7 z⟩
   | 4, ho, hL, hdep, hK =>
    obtain rfl := Option.some.inj ho
    unfold Oper.wp
    go_simp
    exact hK (.pointer (some ⟨w'.heap.size, 0, none⟩)) (w'.alloc (.cells #[.slice none 0 0, .slice none 0 0] 30)) ⟨w'.heap.size, q, m, below_alloc hB _, by simp; omega, h0, h2, fun h => (h1 h).imp fun v0 h => h.imp fun v1 h => ⟨h.1, Kd.R_alloc h.2.1 _, Kd.S_alloc h.2.2 _⟩, fun h => (h3 h).imp fun v0 h => h.imp fun v1 h => ⟨h.1, Kd.R_alloc h.2.1 _, Kd.S_alloc h.2.2 _⟩, fun _ => ⟨rfl, hB.size, by simp, fun _ => new_at rfl, fun z => absurd (o2 z).1 (by rw [hL]; decide)⟩, fun h => ⟨(h5 h).1, (h5 h).2.1, by have := (h5 h).2.2.1; simp; omega, fun z => blk_alloc ((h5 h).2.2.2.1 z) _, fun z v0 v1 hv => blk_alloc ((h5 h).2.2.2.2 z v0 v1 hv) _⟩, fun _ h => by have := (h5 h).2.2.1; omega, o1, fun z => ⟨rfl, (o2 z).2⟩, o3⟩
   | 5, ho, hL, hdep, hK =>
    obtain rfl := Option.some.inj ho
    unfold Oper.wp
    go_simp
    exact hK (.pointer (some ⟨w'.heap.size, 0, none⟩)) (w'.alloc (.cells #[.slice none 0 0, .slice none 0 0] 30)) ⟨p, w'.heap.size, m, below_alloc hB _, by simp; omega, h0, h2, fun h => (h1 h).imp fun v0 h => h.imp fun v1 h => ⟨h.1, Kd.R_alloc h.2.1 _, Kd.S_alloc h.2.2 _⟩, fun h => (h3 h).imp fun v0 h => h.imp fun v1 h => ⟨h.1, Kd.R_alloc h.2.1 _, Kd.S_alloc h.2.2 _⟩, fun h => ⟨(h4 h).1, (h4 h).2.1, by have := (h4 h).2.2.1; simp; omega, fun z => blk_alloc ((h4 h).2.2.2.1 z) _, fun z v0 v1 hv => blk_alloc ((h4 h).2.2.2.2 z v0 v1 hv) _⟩, fun _ => ⟨rfl, hB.size, by simp, fun _ => new_at rfl, fun z => absurd (o3 z).1 (by rw [hL]; decide)⟩, fun h _ => by have := (h4 h).2.2.1; omega, o1, o2, fun z => ⟨rfl, (o3 z).2⟩⟩
   | 6, ho, hL, hdep, hK =>
    have dd := hdep
    rw [show deps _ 6 = [4, 1, 3, 0, 1, 4, 5] from by kernel_rfl] at dd
    simp only [List.all_cons, List.all_nil, Bool.and_eq_true] at dd
    obtain ⟨d4, d1, d3, d0, _, _, d5, _⟩ := dd
    have EP : b.tmps[16]? = some (V 4) := hAt.put 4 16 d4 rfl
    have EC : b.tmps[89]? = some (V 1) := hAt.put 1 89 d1 rfl
    obtain ⟨e1, e2, e3, e4, _⟩ := h4 d4
    obtain ⟨v0, v1, gv, gr, gs⟩ := h1 d1
    obtain ⟨G0, g0, rfl⟩ := Kd.R_slice gr
    obtain ⟨G1, g1, rfl⟩ := Kd.S_slice gs
    rw [e1] at EP
    rw [gv] at EC
    have z := e4 hL
    have f0 := blk_frozen z 0
    have f1 := blk_frozen z 1
    have y0 := (blk_cell z 0).trans rfl
    have y1 := (blk_cell z 1).trans rfl
    have NE := hpq d4 d5
    obtain rfl := Option.some.inj ho
    unfold Oper.wp
    go_simp
    refine hK undef ((w'.setCell ⟨p, 0, none⟩ (.slice G0 l.length g0)).setCell ⟨p, 1, none⟩ (.slice G1 L.length g1)) ⟨p, q, m, below_set (below_set hB e2) e2, by simpa using hm, h0, h2, fun h => ?_, fun h => ?_, ?_, ?_, hpq, o1, fun _ => ⟨d4, d3⟩, o3⟩
    ·exact (h1 h).imp fun v0 h => h.imp fun v1 h => ⟨h.1, Kd.R_mono (Kd.R_far (p := ⟨p, 1, none⟩) (Kd.R_far (p := ⟨p, 0, none⟩) (Kd.R_types h.2.1 z (by decide)) (fun _ hk => hk.2) _) (fun _ hk => hk.2) _) (fun _ hk => hk.1), Kd.S_mono (Kd.S_far (p := ⟨p, 1, none⟩) (Kd.S_far (p := ⟨p, 0, none⟩) (Kd.S_types h.2.2 z (by decide)) (fun _ hk => hk.2) _) (fun _ hk => hk.2) _) (fun _ hk => hk.1)⟩
    ·exact (h3 h).imp fun v0 h => h.imp fun v1 h => ⟨h.1, Kd.R_mono (Kd.R_far (p := ⟨p, 1, none⟩) (Kd.R_far (p := ⟨p, 0, none⟩) (Kd.R_types h.2.1 z (by decide)) (fun _ hk => hk.2) _) (fun _ hk => hk.2) _) (fun _ hk => hk.1), Kd.S_mono (Kd.S_far (p := ⟨p, 1, none⟩) (Kd.S_far (p := ⟨p, 0, none⟩) (Kd.S_types h.2.2 z (by decide)) (fun _ hk => hk.2) _) (fun _ hk => hk.2) _) (fun _ hk => hk.1)⟩
    ·exact fun _ => ⟨e1, e2, by simp; exact e3, (fun y => by cases y), fun _ v0 v1 hv => by have hv := gv.symm.trans hv; simp only [Value.agg.injEq, Array.mk.injEq, List.cons.injEq, and_true] at hv; obtain ⟨rfl, rfl⟩ := hv; exact blk_put (blk_put z 0 _ rfl) 1 _ rfl⟩
    ·exact fun h => ⟨(h5 h).1, (h5 h).2.1, by simp; exact (h5 h).2.2.1, fun y => blk_far (blk_far ((h5 h).2.2.2.1 y) (p := ⟨p, 0, none⟩) (NE.symm) _) (p := ⟨p, 1, none⟩) (NE.symm) _, fun y v0 v1 hv => blk_far (blk_far ((h5 h).2.2.2.2 y v0 v1 hv) (p := ⟨p, 0, none⟩) (NE.symm) _) (p := ⟨p, 1, none⟩) (NE.symm) _⟩
   | 7, ho, hL, hdep, hK =>
    have dd := hdep
    rw [show deps _ 7 = [5, 3, 6, 0, 1, 2, 3, 4, 5, 6] from by kernel_rfl] at dd
    simp only [List.all_cons, List.all_nil, Bool.and_eq_true] at dd
    obtain ⟨d5, d3, d6, d0, d1, d2, _, d4, _, _, _⟩ := dd
    have EP : b.tmps[17]? = some (V 5) := hAt.put 5 17 d5 rfl
    have EC : b.tmps[91]? = some (V 3) := hAt.put 3 91 d3 rfl
    obtain ⟨e1, e2, e3, e4, _⟩ := h5 d5
    obtain ⟨v0, v1, gv, gr, gs⟩ := h3 d3
    obtain ⟨G0, g0, rfl⟩ := Kd.R_slice gr
    obtain ⟨G1, g1, rfl⟩ := Kd.S_slice gs
    rw [e1] at EP
    rw [gv] at EC
    have z := e4 hL
    have f0 := blk_frozen z 0
    have f1 := blk_frozen z 1
    have y0 := (blk_cell z 0).trans rfl
    have y1 := (blk_cell z 1).trans rfl
    have NE := hpq d4 d5
    obtain rfl := Option.some.inj ho
    unfold Oper.wp
    go_simp
    refine hK undef ((w'.setCell ⟨q, 0, none⟩ (.slice G0 l.length g0)).setCell ⟨q, 1, none⟩ (.slice G1 L.length g1)) ⟨p, q, m, below_set (below_set hB e2) e2, by simpa using hm, h0, h2, fun h => ?_, fun h => ?_, ?_, ?_, hpq, o1, o2, fun _ => ⟨d5, d3⟩⟩
    ·exact (h1 h).imp fun v0 h => h.imp fun v1 h => ⟨h.1, Kd.R_mono (Kd.R_far (p := ⟨q, 1, none⟩) (Kd.R_far (p := ⟨q, 0, none⟩) (Kd.R_types h.2.1 z (by decide)) (fun _ hk => hk.2) _) (fun _ hk => hk.2) _) (fun _ hk => hk.1), Kd.S_mono (Kd.S_far (p := ⟨q, 1, none⟩) (Kd.S_far (p := ⟨q, 0, none⟩) (Kd.S_types h.2.2 z (by decide)) (fun _ hk => hk.2) _) (fun _ hk => hk.2) _) (fun _ hk => hk.1)⟩
    ·exact (h3 h).imp fun v0 h => h.imp fun v1 h => ⟨h.1, Kd.R_mono (Kd.R_far (p := ⟨q, 1, none⟩) (Kd.R_far (p := ⟨q, 0, none⟩) (Kd.R_types h.2.1 z (by decide)) (fun _ hk => hk.2) _) (fun _ hk => hk.2) _) (fun _ hk => hk.1), Kd.S_mono (Kd.S_far (p := ⟨q, 1, none⟩) (Kd.S_far (p := ⟨q, 0, none⟩) (Kd.S_types h.2.2 z (by decide)) (fun _ hk => hk.2) _) (fun _ hk => hk.2) _) (fun _ hk => hk.1)⟩
    ·exact fun h => ⟨(h4 h).1, (h4 h).2.1, by simp; exact (h4 h).2.2.1, fun y => blk_far (blk_far ((h4 h).2.2.2.1 y) (p := ⟨q, 0, none⟩) (NE) _) (p := ⟨q, 1, none⟩) (NE) _, fun y v0 v1 hv => blk_far (blk_far ((h4 h).2.2.2.2 y v0 v1 hv) (p := ⟨q, 0, none⟩) (NE) _) (p := ⟨q, 1, none⟩) (NE) _⟩
    ·exact fun _ => ⟨e1, e2, by simp; exact e3, (fun y => by cases y), fun _ v0 v1 hv => by have hv := gv.symm.trans hv; simp only [Value.agg.injEq, Array.mk.injEq, List.cons.injEq, and_true] at hv; obtain ⟨rfl, rfl⟩ := hv; exact blk_put (blk_put z 0 _ rfl) 1 _ rfl⟩
   | n + 8, ho, hL, hdep, hK => cases ho
end Go.Proofs.Ytmeggliapebkgaa.F
end
