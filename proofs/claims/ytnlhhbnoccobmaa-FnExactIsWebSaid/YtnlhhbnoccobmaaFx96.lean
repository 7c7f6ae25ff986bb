/- What impl_Web_stands answers, and that the Go text comes to it: for every world in which the arguments read as told. -/
import Derived.Test.YtnlhhbnoccobmaaFgA
import Derived.Test.YtnlhhbnoccobmaaPureWebMap
import Derived.Test.YtnlhhbnoccobmaaPureMem
import Derived.Test.YtnlhhbnoccobmaaPureRows
import Derived.Maps.OwnRows
import Derived.Maps.AppendAt
import Derived.Maps.GroupsBeside
import Derived.Deep.RegionLaw
import Derived.Deep.RegionLawGrows
import Derived.WalkSpells
import Derived.BigQuiet
namespace Go.Proofs.Ytnlhhbnoccobmaa.F
open Go.RowKit Go.Proofs.YtnlhhbnoccobmaaW.PrintWords Go.Proofs.YtnlhhbnoccobmaaW.PrintLast Go.Proofs.YtnlhhbnoccobmaaW.PrintMore
attribute [local go_sem] max2_int min2_int max_two min_two max_three min_three max_four min_four   -- for this text's walks alone
set_option linter.unusedVariables false
set_option linter.unusedSimpArgs false

/-! ### impl_Web_stands: function 96 (by hand) -/
open Go.Proofs.Ytnlhhbnoccobmaa.Mem Go.Proofs.Ytnlhhbnoccobmaa.Web Go.Maps
theorem webKey : Keyed Try.prog 2 := int_keyed Try.underlying2
theorem webZero (w : World) : (zeroValue 83).run Try.prog w = .ok (.slice none 0 0) w := by kernel_rfl
theorem info_webint : (Try.prog.info? 3).map (fun i => (i.zero, i.size, i.bytes)) = some (some (.int .i64 0), 1, 8) := by kernel_rfl
/-- A row of rows that is read. -/
theorem row_of_C {e n : Nat} {w : World} {A : Option Addr} {rows : List (List Int)} (h : Kd.C (Kd.slice e (Kd.int .i64)) w A n rows) (j : Nat) (hj : j < n) : ∃ ad Aa ca, A = some ad ∧ w.cell? (ad.add j) = some (.slice Aa (rows.getD j []).length ca) ∧ (rows.getD j []).length ≤ ca ∧ Kd.C (Kd.int .i64) w Aa (rows.getD j []).length (rows.getD j []) := by
 obtain ⟨hl, _, hc⟩ := h
 obtain ⟨ad, rfl, hc2⟩ := hc (by omega)
 have hjl : j < rows.length := by omega
 obtain ⟨c, hcl, ⟨Aa, ca, rfl, hle, hC⟩, hcell⟩ := hc2 j _ (List.getElem?_eq_getElem hjl)
 have h0 := hcell 0 _ rfl
 rw [show (Kd.slice e (Kd.int .i64)).sz = 1 from rfl, Nat.mul_one, Nat.add_zero] at h0
 have hg : rows.getD j [] = rows[j] := by rw [List.getD_eq_getElem?_getD, List.getElem?_eq_getElem hjl]; rfl
 rw [hg]
 exact ⟨ad, Aa, ca, rfl, h0, hle, hC⟩
/-- append, as a step of a region that draws its order: to a row of the call's own; where the new slice lies. -/
theorem step_append_own_at {P : Program} {ops : Array Oper} {o : Oper} {a : Act} {w : World} {K : Act → World → Prop} {Q : Exit → Act → World → Prop} {E : Prop} (hgd : o.guard = none) (s x : Operand) (t : TypeId)
  (ho : o.op = .call { callee := .builtin .append, args := #[s, x], argTypes := #[t, t] })
  (base : Nat) (e : TypeId) (i : TypeInfo) (z : Value) (size bytes : Nat) (ht : P.underlying t = some (.slice e)) (hi : P.info? e = some i) (hz : i.zero = some z)
  (hsize : i.size = size) (hby : i.bytes = bytes) (hzs : z.cells.size = size) (hsz : 0 < size)
  (v : Value) (n : Nat) (xs : List Value) (hs : a.eval s = v) (hown : w.ownsRow base e size v n xs)
  (ad : Addr) (m c : Nat) (news : List Value) (hx : a.eval x = .slice (some ad) m c) (hl : news.length = m * size) (hnews : ∀ j u, news[j]? = some u → w.cell? (ad.add j) = some u) (h1 : ∀ u ∈ news, u.oneCell' = true)
  (h63 : n + m ≤ maxLen) (hbytes : (n + m) * bytes ≤ 140737488355328) (hbase : base ≤ w.heap.size)
  (h : ∀ v' w', w'.ownsRow base e size v' (n + m) (xs ++ news) → w.grownBy w' v.ownBlock → (v' = .slice none 0 0 ↔ v = .slice none 0 0 ∧ m = 0) → (v'.ownBlock = v.ownBlock ∨ v'.ownBlock = some w.heap.size) → K (a.put o.dst v') w') :
  if Region.wanted o (yielded ops a.tmps) = true then Oper.wp P o a w K Q else E := by
 have hw : Region.wanted o (yielded ops a.tmps) = true := by simp [Region.wanted, hgd]
 rw [if_pos hw]
 obtain ⟨v', w', hr, h2, h3, h4, h5⟩ := run_append_own_at (P := P) (w := w) base t o.type e i z size bytes ht hi hz hsize hby hzs hsz v n xs hown ad m c news hl hnews h1 h63 hbytes hbase
 unfold Oper.wp execOp
 simp only [ho, resolve, invoke, builtin, Sem.run_bind, Sem.run_pure, Result.andThen_ok, List.map_toArray, List.map_cons, List.map_nil, hs, hx, hr]
 exact h v' w' h2 h3 h4 h5
set_option maxHeartbeats 4000000 in
set_option maxRecDepth 100000 in
theorem stands_walk (legs : List Int) (forks : List (List Int)) (Bw : Nat) (Al : Option Addr) (cl : Nat) (Af : Option Addr) (cf : Nat) (h8 : legs.length + forks.length ≤ 8) (h3 : ∀ f ∈ forks, f.length = 3) (hwf : ∀ p ∈ inc legs forks, (Lit.int .i64 p.1).wf = true) (w : World)
  (hb : w.heap[Bw]? = some (.cells #[.slice Al legs.length cl, .slice Af forks.length cf] 28 (0, 0))) (hl : Kd.C (Kd.int .i64) w Al legs.length legs) (hf : Kd.C (Kd.slice 2 (Kd.int .i64)) w Af forks.length forks) :
  Calls Try.prog 96 #[.pointer (some ⟨Bw, 0, none⟩)] w fun e w' => e = .returned (.map (some w.heap.size)) ∧ w'.ownsGroups (H := Unit) Try.prog 2 (w.heap.size + 1) 3 .i64 w.heap.size (inc legs forks).length (GTo (inc legs forks) (inc legs forks).length) ∧ Below w.heap.size w w' := by
 have hmm := @run_makeMap Try.prog
 obtain ⟨i0, hi, hz0, hz1, hz2⟩ := info_parts info_webint
 obtain ⟨nl, hnl⟩ : ∃ nl, nl = legs.length := ⟨_, rfl⟩
 obtain ⟨nf, hnf⟩ : ∃ nf, nf = forks.length := ⟨_, rfl⟩
 obtain ⟨I, hI⟩ : ∃ I, I = inc legs forks := ⟨_, rfl⟩
 have hIl : I.length = nl + 3 * nf := by rw [hI, inc_len h3, hnl, hnf]
 have hleg : ∀ k, k < nl → I.getD k (0, 0) = (legs.getD k 0, k) := fun k hk => by rw [hI]; exact inc_leg (by omega)
 have hfork : ∀ i k, i < nf → k < 3 → I.getD (nl + 3 * i + k) (0, 0) = ((forks.getD i []).getD k 0, nl + i) := fun i k hi hk => by rw [hI, hnl]; exact inc_fork h3 (by omega) hk
 have hwI : ∀ p, p < I.length → (Lit.int .i64 (I.getD p (0, 0)).1).wf = true := fun p hp => by rw [hI] at hp ⊢; exact wf_at hwf hp
 have hcb := blk_cell hb
 have hn8 : nl + nf ≤ 8 := by omega
 rw [← hnl] at hl
 rw [← hnf] at hf
 rw [← hnl, ← hnf] at hb
 rw [← hI]
 have H3 := Aside0.mk h3
 have HIL := Aside0.mk hIl
 have HLEG := Aside0.mk hleg
 have HFORK := Aside0.mk hfork
 have HWI := Aside0.mk hwI
 have HL := Aside0.mk hl
 have HF := Aside0.mk hf
 have HBK := Aside0.mk hb
 have HNF := Aside0.mk hnf
 have c0 : (w.alloc (.map #[] 0)).cell? ⟨Bw, 0, none⟩ = some (.slice Al nl cl) := (blk_cell (blk_alloc hb _) 0).trans rfl
 have HSTART := Aside0.mk (World.ownsGroups_made (H := Unit) w Try.prog 2 3 .i64)
 clear h8 h3 hwf hl hf hb hIl hleg hfork hwI hcb hI hnl hnf
 go_enter Try.func96, Try.ntmps96
 go_wp2
 go_loopw [16] (fun s16 wr => ∃ k : Nat, s16 = .int .i64 (k : Int) ∧ Aside0 (k ≤ nl) ∧ Aside0 (wr.ownsGroups (H := Unit) Try.prog 2 (w.heap.size + 1) 3 .i64 w.heap.size k (GTo I k)) ∧ Aside0 (Below w.heap.size w wr) ∧ Aside0 (w.heap.size + 1 ≤ wr.heap.size))
  (fun s16 _ => nl - (intOf s16).toNat)
 case atStart => exact ⟨0, rfl, ⟨Nat.zero_le _⟩, HSTART, ⟨(Below.refl _ _).alloc (Nat.le_refl _) _⟩, ⟨by simp⟩⟩
 case round =>
  clear HSTART c0 hmm
  obtain ⟨k, rfl, HK, HO, HB, HS⟩ := hrel
  by_cases hlt : k < nl
  ·have t1 : decide ((k : Int) < (nl : Int)) = true := decide_eq_true (by omega)
   have t2 : decide (k < nl) = true := decide_eq_true hlt
   have HLT := Aside0.mk hlt
   have hIk := HLEG.out k hlt
   have hwk := HWI.out k (by rw [HIL.out]; omega)
   rw [hIk] at hwk
   obtain ⟨ad, ead, hcell⟩ := cell_of_C (Kd.C_below HL.out HB.out) k hlt
   subst ead
   obtain ⟨e, he⟩ : ∃ e, e = legs.getD k 0 := ⟨_, rfl⟩
   rw [← he] at hcell hIk hwk
   have hkey := keyOf_int_mk Try.underlying2 hwk
   have HIK := Aside0.mk hIk
   clear he hIk hwk
   have hs := HS.out
   go_wp2_with (first
    | (at_lookup; refine wpList_lookup_groups _ rfl _ _ 81 rfl 2 83 3 .i64 webKey Try.underlying81 (webZero _) (w.heap.size + 1) w.heap.size k _ rfl HO.out (by unfold maxLen; omega) _ _ rfl hkey ?_; intro v zs hat hoi hzl hback)
    | (at_builtin; refine wpList_append_own_at _ rfl _ _ 83 rfl (w.heap.size + 1) 3 i0 (.int .i64 0) 1 8 Try.underlying83 hi hz0 hz1 hz2 rfl (by decide) _ _ _ rfl (hoi.1.alloc _) ⟨wr.heap.size, 0, none⟩ 1 1 [.int .i64 (k : Int)] rfl rfl (cell_one_new _ _ _) (ints_oneCell .i64 [(k : Int)]) (by unfold maxLen; omega) (by omega) (by simp; omega) ?_; intro v' w1 hown' hgrow hnil hloc)
    | (at_mapUpdate; refine wpList_mapUpdate_back _ rfl _ _ _ 81 rfl hback rfl rfl rfl ((World.grownBy_alloc _ _ _).trans hgrow) (hoi.appended hown' (WalkArith.wf_i64 (by omega))) (by simp; omega) (hloc.imp id (fun h => ⟨_, h, by simp⟩)) ?_; intro w2 hown2 hgrow2)
    | go_in)
   have hall := (World.grownBy_alloc wr _ _).trans hgrow
   go_roundw
   case rel =>
    have hz := GTo_zs (I := I) (p := k) (by rw [HIL.out]; omega) hoi hat
    refine ⟨k + 1, (by first | rfl | exact congrArg _ (wS (by omega))), ⟨HLT.out⟩, ⟨?_⟩, ⟨HB.out.groups hoi hall hgrow2 HB.out.size (Nat.le_succ _) (Nat.le_refl _)⟩, ⟨Nat.le_trans HS.out (Nat.le_trans hall.size hgrow2.size)⟩⟩
    rw [GTo_step (by rw [HIL.out]; omega) HIK.out hz (hoi.appended hown' (WalkArith.wf_i64 (by omega)))]
    exact hown2
   case measure => (try rw [wS (by omega)]); simp [intOf]; omega
  ·have t1 : decide ((k : Int) < (nl : Int)) = false := decide_eq_false (by omega)
   have t2 : decide (k < nl) = false := decide_eq_false hlt
   have hk : k = nl := by have := HK.out; omega
   subst hk
   clear hlt HK
   have c1 : wr.cell? ⟨Bw, 1, none⟩ = some (.slice Af nf cf) := (blk_cell (blk_below HBK.out HB.out) 1).trans rfl
   go_wp2_with fail
   clear c1
   go_loopw [35] (fun s35 wr => ∃ i : Nat, s35 = .int .i64 (i : Int) ∧ Aside0 (i ≤ nf) ∧ Aside0 (wr.ownsGroups (H := Unit) Try.prog 2 (w.heap.size + 1) 3 .i64 w.heap.size (k + 3 * i) (GTo I (k + 3 * i))) ∧ Aside0 (Below w.heap.size w wr) ∧ Aside0 (w.heap.size + 1 ≤ wr.heap.size))
    (fun s35 _ => nf - (intOf s35).toNat)
   case atStart => exact ⟨0, rfl, ⟨Nat.zero_le _⟩, HO, HB, HS⟩
   case round =>
    clear HO HB HS
    obtain ⟨i, rfl, HI, HO, HB, HS⟩ := hrel
    by_cases hi2 : i < nf
    ·have t3 : decide ((i : Int) < (nf : Int)) = true := decide_eq_true (by omega)
     have t4 : decide (i < nf) = true := decide_eq_true hi2
     have HIN := Aside0.mk hi2
     obtain ⟨ad, Aa, ca, ead, hrow0, hca, hCa⟩ := row_of_C HF.out i hi2
     subst ead
     have hrow := (HB.out.cell (World.block_lt_of_cell? w _ hrow0)).trans hrow0
     have hl3 : (forks.getD i []).length = 3 := H3.out _ (by rw [List.getD_eq_getElem?_getD, List.getElem?_eq_getElem (by rw [← HNF.out]; exact hi2)]; exact List.getElem_mem _)
     rw [hl3] at hrow hCa
     obtain ⟨fk, hfk⟩ : ∃ fk, fk = forks.getD i [] := ⟨_, rfl⟩
     rw [← hfk] at hCa hl3
     have HFK := Aside0.mk hfk
     obtain ⟨ad2, ead2, _⟩ := cell_of_C hCa 0 (by omega)
     subst ead2
     have HCA := Aside0.mk hCa
     clear hfk hl3 hCa hrow0
     go_wp2_with fail
     clear hrow
     go_loopw [42] (fun s42 wr => ∃ j : Nat, s42 = .int .i64 (j : Int) ∧ Aside0 (j ≤ 3) ∧ Aside0 (wr.ownsGroups (H := Unit) Try.prog 2 (w.heap.size + 1) 3 .i64 w.heap.size (k + 3 * i + j) (GTo I (k + 3 * i + j))) ∧ Aside0 (Below w.heap.size w wr) ∧ Aside0 (w.heap.size + 1 ≤ wr.heap.size))
      (fun s42 _ => 3 - (intOf s42).toNat)
     case atStart => exact ⟨0, rfl, ⟨Nat.zero_le _⟩, HO, HB, HS⟩
     case round =>
      clear HO HB HS
      obtain ⟨j, rfl, HJ, HO, HB, HS⟩ := hrel
      by_cases hj : j < 3
      ·have t5 : decide ((j : Int) < (3 : Int)) = true := decide_eq_true (by omega)
       have t6 : decide (j < 3) = true := decide_eq_true hj
       have HJ3 := Aside0.mk hj
       have hIk := HFORK.out i j hi2 hj
       have hpl : k + 3 * i + j < I.length := by rw [HIL.out]; omega
       have hwk := HWI.out _ hpl
       rw [hIk, ← HFK.out] at hwk
       rw [← HFK.out] at hIk
       obtain ⟨ad3, ead3, hcell0⟩ := cell_of_C HCA.out j hj
       obtain rfl := Option.some.inj ead3
       have hcell := (HB.out.cell (World.block_lt_of_cell? w _ hcell0)).trans hcell0
       obtain ⟨e, he⟩ : ∃ e, e = fk.getD j 0 := ⟨_, rfl⟩
       rw [← he] at hcell hIk hwk
       have hkey := keyOf_int_mk Try.underlying2 hwk
       have HIK := Aside0.mk hIk
       have HPL := Aside0.mk hpl
       have hs := HS.out
       have c2 : wr.cell? ⟨Bw, 0, none⟩ = some (.slice Al k cl) := (blk_cell (blk_below HBK.out HB.out) 0).trans rfl
       have hod : (wr.drew).ownsGroups (H := Unit) Try.prog 2 (w.heap.size + 1) 3 .i64 w.heap.size (k + 3 * i + j) (GTo I (k + 3 * i + j)) := HO.out
       obtain ⟨U, hUU⟩ : ∃ U : Nat, U = k + i := ⟨_, rfl⟩
       have hu : IntKind.i64.wrap ((k : Int) + (i : Int)) = (U : Int) := by rw [i64_w]; unfold wrap64; omega
       have HU := Aside0.mk hUU
       have hoe : ((wr.alloc (.cells #[.int .i64 (U : Int)] 3)).drew).ownsGroups (H := Unit) Try.prog 2 (w.heap.size + 1) 3 .i64 w.heap.size (k + 3 * i + j) (GTo I (k + 3 * i + j)) := hod.kept (World.grownBy_alloc wr.drew _ none) (by simp) (fun es clock _ x _ => by cases x.val.ownBlock <;> simp)
       obtain ⟨va, za, hra, hata, hoia, hzla, hbacka⟩ := hod.at webKey Try.underlying81 (webZero _) (by unfold maxLen; omega) hkey
       obtain ⟨vb, zb, hrb, hatb, hoib, hzlb, hbackb⟩ := hoe.at webKey Try.underlying81 (webZero _) (by unfold maxLen; omega) hkey
       have HATA := Aside0.mk hata
       have HATB := Aside0.mk hatb
       have HBKA := Aside0.mk hbacka
       have HBKB := Aside0.mk hbackb
       have HOIA := Aside0.mk hoia
       have HOIB := Aside0.mk hoib
       clear hata hatb hbacka hbackb hoia hoib hod hoe he hIk hwk hcell0 hpl hUU
       go_wp2_with fail
       go_region_law (first
        | (refine step_append_own_at rfl (.tmp 50) (.tmp 58) 83 rfl (w.heap.size + 1) 3 i0 (.int .i64 0) 1 8 Try.underlying83 hi hz0 hz1 hz2 rfl (by decide) va za.length (za.map (Value.int .i64)) ?s (HOIA.out.1.alloc _) ⟨wr.heap.size, 0, none⟩ 1 1 [.int .i64 (U : Int)] (by simp [Act.eval, Act.put]) rfl (cell_one_new wr _ _) (ints_oneCell .i64 [(U : Int)]) (by unfold maxLen; omega) (by omega) (by simp; omega) ?_; (case s => (simp [Act.eval, Act.put]; done)); intro v' w1 hown' hgrow hnil hloc; have HOA := Aside0.mk (HOIA.out.appended (x := (U : Int)) (w1 := w1) hown' (WalkArith.wf_i64 (by have := HU.out; omega))); obtain ⟨w2, hrun2, hown2, hg2⟩ := HBKA.out w1 v' (za ++ [(U : Int)]) ((World.grownBy_alloc wr.drew _ _).trans hgrow) HOA.out (by simp; omega) (hloc.imp id (fun h => ⟨_, h, by simp⟩)); have HZ := Aside0.mk (GTo_zs (I := I) (p := k + 3 * i + j) (by have := HPL.out; omega) HOIA.out HATA.out); have HOW2 := Aside0.mk hown2; have HBB2 := Aside0.mk ((below_drew HB.out).groups HOIA.out ((World.grownBy_alloc wr.drew _ _).trans hgrow) hg2 HB.out.size (Nat.le_succ _) (Nat.le_refl _)); have HSZ2 := Aside0.mk (Nat.le_trans (show wr.heap.size ≤ w1.heap.size from Nat.le_trans (by simp) hgrow.size) hg2.size); have HST := Aside0.mk (GTo_step (I := I) (p := k + 3 * i + j) HPL.out (by rw [HIK.out, HU.out]) HZ.out HOA.out); clear hown' hgrow hnil hloc hown2 hg2)
        | (refine step_append_own_at rfl (.tmp 50) (.tmp 58) 83 rfl (w.heap.size + 1) 3 i0 (.int .i64 0) 1 8 Try.underlying83 hi hz0 hz1 hz2 rfl (by decide) vb zb.length (zb.map (Value.int .i64)) ?s HOIB.out.1 ⟨wr.heap.size, 0, none⟩ 1 1 [.int .i64 (U : Int)] (by simp [Act.eval, Act.put]) rfl (cell_one_new wr _ _) (ints_oneCell .i64 [(U : Int)]) (by unfold maxLen; omega) (by omega) (by simp; omega) ?_; (case s => (simp [Act.eval, Act.put]; done)); intro v' w1 hown' hgrow hnil hloc; have HOA := Aside0.mk (HOIB.out.appended (x := (U : Int)) (w1 := w1) hown' (WalkArith.wf_i64 (by have := HU.out; omega))); obtain ⟨w2, hrun2, hown2, hg2⟩ := HBKB.out w1 v' (zb ++ [(U : Int)]) hgrow HOA.out (by simp; omega) (hloc.imp id (fun h => ⟨_, h, Nat.le_of_eq rfl⟩)); have HZ := Aside0.mk (GTo_zs (I := I) (p := k + 3 * i + j) (by have := HPL.out; omega) HOIB.out HATB.out); have HOW2 := Aside0.mk hown2; have HBB2 := Aside0.mk ((below_drew (below_alloc HB.out (.cells #[.int .i64 (U : Int)] 3))).groups HOIB.out hgrow hg2 (Nat.le_trans HB.out.size (by simp)) (Nat.le_succ _) (Nat.le_refl _)); have HSZ2 := Aside0.mk (Nat.le_trans (show wr.heap.size ≤ w1.heap.size from Nat.le_trans (by simp) hgrow.size) hg2.size); have HST := Aside0.mk (GTo_step (I := I) (p := k + 3 * i + j) HPL.out (by rw [HIK.out, HU.out]) HZ.out HOA.out); clear hown' hgrow hnil hloc hown2 hg2))
       all_goals
        go_wp2_with fail
        go_roundw
        case rel => exact ⟨j + 1, (by first | rfl | exact congrArg _ (wS (by omega))), ⟨HJ3.out⟩, ⟨by rw [show k + 3 * i + (j + 1) = k + 3 * i + j + 1 from rfl, HST.out]; exact HOW2.out⟩, HBB2, ⟨Nat.le_trans HS.out HSZ2.out⟩⟩
        case measure => have := HJ3.out; (try rw [wS (by omega)]); simp [intOf]; omega
      ·have t5 : decide ((j : Int) < (3 : Int)) = false := decide_eq_false (by omega)
       have t6 : decide (j < 3) = false := decide_eq_false hj
       have hj3 : j = 3 := by have := HJ.out; omega
       subst hj3
       clear hj
       go_wp2_with fail
       go_roundw
       case rel => exact ⟨i + 1, (by first | rfl | exact congrArg _ (wS (by omega))), ⟨HIN.out⟩, HO, HB, HS⟩
       case measure => (try rw [wS (by omega)]); simp [intOf]; omega
    ·have t3 : decide ((i : Int) < (nf : Int)) = false := decide_eq_false (by omega)
     have t4 : decide (i < nf) = false := decide_eq_false hi2
     have hi : i = nf := by have := HI.out; omega
     clear hi2
     go_wp2_with fail
     go_ret
     refine ⟨rfl, ?_, HB.out⟩
     rw [HIL.out, ← hi]
     exact HO.out

end Go.Proofs.Ytnlhhbnoccobmaa.F
