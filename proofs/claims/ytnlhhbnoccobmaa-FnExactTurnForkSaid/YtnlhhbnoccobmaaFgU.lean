/- What these functions answer, and that the Go text comes to it, for every world in which the arguments read as told: impl_Web_stands, impl_Web_partsOf, impl_IsWeb. -/
import Derived.Test.YtnlhhbnoccobmaaFgA
import Derived.Test.YtnlhhbnoccobmaaPureWebMap
import Derived.Test.YtnlhhbnoccobmaaPureMem
import Derived.Test.YtnlhhbnoccobmaaPureRows
import Derived.Maps.OwnRows
import Derived.Maps.AppendAt
import Derived.Maps.GroupsBeside
import Derived.Deep.RegionLaw
import Derived.Deep.RegionLawGrows
import Derived.WalkSpells
import Derived.BigQuiet
import Derived.Maps.RangeWalk
import Derived.Test.YtnlhhbnoccobmaaPureWebC
import Derived.Test.YtnlhhbnoccobmaaPureA
import Derived.Deep.RegionWith
namespace Go.Proofs.Ytnlhhbnoccobmaa.F
section
open Go.RowKit Go.Proofs.YtnlhhbnoccobmaaW.PrintWords Go.Proofs.YtnlhhbnoccobmaaW.PrintLast Go.Proofs.YtnlhhbnoccobmaaW.PrintMore
attribute [local go_sem] max2_int min2_int max_two min_two max_three min_three max_four min_four   -- for this text's walks alone
set_option linter.unusedVariables false
set_option linter.unusedSimpArgs false

/-! ### impl_Web_stands: function 96 (by hand) -/
open Go.Proofs.Ytnlhhbnoccobmaa.Mem Go.Proofs.Ytnlhhbnoccobmaa.Web Go.Maps
theorem webKey : Keyed Try.prog 2 := int_keyed Try.underlying2
theorem webZero (w : World) : (zeroValue 83).run Try.prog w = .ok (.slice none 0 0) w := by kernel_rfl
theorem info_webint : (Try.prog.info? 3).map (fun i => (i.zero, i.size, i.bytes)) = some (some (.int .i64 0), 1, 8) := by kernel_rfl
/-- A row of rows that is read. -/
theorem row_of_C {e n : Nat} {w : World} {A : Option Addr} {rows : List (List Int)} (h : Kd.C (Kd.slice e (Kd.int .i64)) w A n rows) (j : Nat) (hj : j < n) : ∃ ad Aa ca, A = some ad ∧ w.cell? (ad.add j) = some (.slice Aa (rows.getD j []).length ca) ∧ (rows.getD j []).length ≤ ca ∧ Kd.C (Kd.int .i64) w Aa (rows.getD j []).length (rows.getD j []) := by
 obtain ⟨hl, _, hc⟩ := h
 obtain ⟨ad, rfl, hc2⟩ := hc (by omega)
 have hjl : j < rows.length := by omega
 obtain ⟨c, hcl, ⟨Aa, ca, rfl, hle, hC⟩, hcell⟩ := hc2 j _ (List.getElem?_eq_getElem hjl)
 have h0 := hcell 0 _ rfl
 rw [show (Kd.slice e (Kd.int .i64)).sz = 1 from rfl, Nat.mul_one, Nat.add_zero] at h0
 have hg : rows.getD j [] = rows[j] := by rw [List.getD_eq_getElem?_getD, List.getElem?_eq_getElem hjl]; rfl
 rw [hg]
 exact ⟨ad, Aa, ca, rfl, h0, hle, hC⟩
/-- append, as a step of a region that draws its order: to a row of the call's own; where the new slice lies. -/
theorem step_append_own_at {P : Program} {ops : Array Oper} {o : Oper} {a : Act} {w : World} {K : Act → World → Prop} {Q : Exit → Act → World → Prop} {E : Prop} (hgd : o.guard = none) (s x : Operand) (t : TypeId)
  (ho : o.op = .call { callee := .builtin .append, args := #[s, x], argTypes := #[t, t] })
  (base : Nat) (e : TypeId) (i : TypeInfo) (z : Value) (size bytes : Nat) (ht : P.underlying t = some (.slice e)) (hi : P.info? e = some i) (hz : i.zero = some z)
  (hsize : i.size = size) (hby : i.bytes = bytes) (hzs : z.cells.size = size) (hsz : 0 < size)
  (v : Value) (n : Nat) (xs : List Value) (hs : a.eval s = v) (hown : w.ownsRow base e size v n xs)
  (ad : Addr) (m c : Nat) (news : List Value) (hx : a.eval x = .slice (some ad) m c) (hl : news.length = m * size) (hnews : ∀ j u, news[j]? = some u → w.cell? (ad.add j) = some u) (h1 : ∀ u ∈ news, u.oneCell' = true)
  (h63 : n + m ≤ maxLen) (hbytes : (n + m) * bytes ≤ 140737488355328) (hbase : base ≤ w.heap.size)
  (h : ∀ v' w', w'.ownsRow base e size v' (n + m) (xs ++ news) → w.grownBy w' v.ownBlock → (v' = .slice none 0 0 ↔ v = .slice none 0 0 ∧ m = 0) → (v'.ownBlock = v.ownBlock ∨ v'.ownBlock = some w.heap.size) → K (a.put o.dst v') w') :
  if Region.wanted o (yielded ops a.tmps) = true then Oper.wp P o a w K Q else E := by
 have hw : Region.wanted o (yielded ops a.tmps) = true := by simp [Region.wanted, hgd]
 rw [if_pos hw]
 obtain ⟨v', w', hr, h2, h3, h4, h5⟩ := run_append_own_at (P := P) (w := w) base t o.type e i z size bytes ht hi hz hsize hby hzs hsz v n xs hown ad m c news hl hnews h1 h63 hbytes hbase
 unfold Oper.wp execOp
 simp only [ho, resolve, invoke, builtin, Sem.run_bind, Sem.run_pure, Result.andThen_ok, List.map_toArray, List.map_cons, List.map_nil, hs, hx, hr]
 exact h v' w' h2 h3 h4 h5
set_option maxHeartbeats 4000000 in
set_option maxRecDepth 100000 in
theorem stands_walk (legs : List Int) (forks : List (List Int)) (Bw : Nat) (Al : Option Addr) (cl : Nat) (Af : Option Addr) (cf : Nat) (h8 : legs.length + forks.length ≤ 8) (h3 : ∀ f ∈ forks, f.length = 3) (hwf : ∀ p ∈ inc legs forks, (Lit.int .i64 p.1).wf = true) (w : World)
  (hb : w.heap[Bw]? = some (.cells #[.slice Al legs.length cl, .slice Af forks.length cf] 28 (0, 0))) (hl : Kd.C (Kd.int .i64) w Al legs.length legs) (hf : Kd.C (Kd.slice 2 (Kd.int .i64)) w Af forks.length forks) :
  Calls Try.prog 96 #[.pointer (some ⟨Bw, 0, none⟩)] w fun e w' => e = .returned (.map (some w.heap.size)) ∧ w'.ownsGroups (H := Unit) Try.prog 2 (w.heap.size + 1) 3 .i64 w.heap.size (inc legs forks).length (GTo (inc legs forks) (inc legs forks).length) ∧ Below w.heap.size w w' := by
 have hmm := @run_makeMap Try.prog
 obtain ⟨i0, hi, hz0, hz1, hz2⟩ := info_parts info_webint
 obtain ⟨nl, hnl⟩ : ∃ nl, nl = legs.length := ⟨_, rfl⟩
 obtain ⟨nf, hnf⟩ : ∃ nf, nf = forks.length := ⟨_, rfl⟩
 obtain ⟨I, hI⟩ : ∃ I, I = inc legs forks := ⟨_, rfl⟩
 have hIl : I.length = nl + 3 * nf := by rw [hI, inc_len h3, hnl, hnf]
 have hleg : ∀ k, k < nl → I.getD k (0, 0) = (legs.getD k 0, k) := fun k hk => by rw [hI]; exact inc_leg (by omega)
 have hfork : ∀ i k, i < nf → k < 3 → I.getD (nl + 3 * i + k) (0, 0) = ((forks.getD i []).getD k 0, nl + i) := fun i k hi hk => by rw [hI, hnl]; exact inc_fork h3 (by omega) hk
 have hwI : ∀ p, p < I.length → (Lit.int .i64 (I.getD p (0, 0)).1).wf = true := fun p hp => by rw [hI] at hp ⊢; exact wf_at hwf hp
 have hcb := blk_cell hb
 have hn8 : nl + nf ≤ 8 := by omega
 rw [← hnl] at hl
 rw [← hnf] at hf
 rw [← hnl, ← hnf] at hb
 rw [← hI]
 have H3 := Aside0.mk h3
 have HIL := Aside0.mk hIl
 have HLEG := Aside0.mk hleg
 have HFORK := Aside0.mk hfork
 have HWI := Aside0.mk hwI
 have HL := Aside0.mk hl
 have HF := Aside0.mk hf
 have HBK := Aside0.mk hb
 have HNF := Aside0.mk hnf
 have c0 : (w.alloc (.map #[] 0)).cell? ⟨Bw, 0, none⟩ = some (.slice Al nl cl) := (blk_cell (blk_alloc hb _) 0).trans rfl
 have HSTART := Aside0.mk (World.ownsGroups_made (H := Unit) w Try.prog 2 3 .i64)
 clear h8 h3 hwf hl hf hb hIl hleg hfork hwI hcb hI hnl hnf
 go_enter Try.func96, Try.ntmps96
 go_wp2
 go_loopw [16] (fun s16 wr => ∃ k : Nat, s16 = .int .i64 (k : Int) ∧ Aside0 (k ≤ nl) ∧ Aside0 (wr.ownsGroups (H := Unit) Try.prog 2 (w.heap.size + 1) 3 .i64 w.heap.size k (GTo I k)) ∧ Aside0 (Below w.heap.size w wr) ∧ Aside0 (w.heap.size + 1 ≤ wr.heap.size))
  (fun s16 _ => nl - (intOf s16).toNat)
 case atStart => exact ⟨0, rfl, ⟨Nat.zero_le _⟩, HSTART, ⟨(Below.refl _ _).alloc (Nat.le_refl _) _⟩, ⟨by simp⟩⟩
 case round =>
  clear HSTART c0 hmm
  obtain ⟨k, rfl, HK, HO, HB, HS⟩ := hrel
  by_cases hlt : k < nl
  ·have t1 : decide ((k : Int) < (nl : Int)) = true := decide_eq_true (by omega)
   have t2 : decide (k < nl) = true := decide_eq_true hlt
   have HLT := Aside0.mk hlt
   have hIk := HLEG.out k hlt
   have hwk := HWI.out k (by rw [HIL.out]; omega)
   rw [hIk] at hwk
   obtain ⟨ad, ead, hcell⟩ := cell_of_C (Kd.C_below HL.out HB.out) k hlt
   subst ead
   obtain ⟨e, he⟩ : ∃ e, e = legs.getD k 0 := ⟨_, rfl⟩
   rw [← he] at hcell hIk hwk
   have hkey := keyOf_int_mk Try.underlying2 hwk
   have HIK := Aside0.mk hIk
   clear he hIk hwk
   have hs := HS.out
   go_wp2_with (first
    | (at_lookup; refine wpList_lookup_groups _ rfl _ _ 81 rfl 2 83 3 .i64 webKey Try.underlying81 (webZero _) (w.heap.size + 1) w.heap.size k _ rfl HO.out (by unfold maxLen; omega) _ _ rfl hkey ?_; intro v zs hat hoi hzl hback)
    | (at_builtin; refine wpList_append_own_at _ rfl _ _ 83 rfl (w.heap.size + 1) 3 i0 (.int .i64 0) 1 8 Try.underlying83 hi hz0 hz1 hz2 rfl (by decide) _ _ _ rfl (hoi.1.alloc _) ⟨wr.heap.size, 0, none⟩ 1 1 [.int .i64 (k : Int)] rfl rfl (cell_one_new _ _ _) (ints_oneCell .i64 [(k : Int)]) (by unfold maxLen; omega) (by omega) (by simp; omega) ?_; intro v' w1 hown' hgrow hnil hloc)
    | (at_mapUpdate; refine wpList_mapUpdate_back _ rfl _ _ _ 81 rfl hback rfl rfl rfl ((World.grownBy_alloc _ _ _).trans hgrow) (hoi.appended hown' (WalkArith.wf_i64 (by omega))) (by simp; omega) (hloc.imp id (fun h => ⟨_, h, by simp⟩)) ?_; intro w2 hown2 hgrow2)
    | go_in)
   have hall := (World.grownBy_alloc wr _ _).trans hgrow
   go_roundw
   case rel =>
    have hz := GTo_zs (I := I) (p := k) (by rw [HIL.out]; omega) hoi hat
    refine ⟨k + 1, (by first | rfl | exact congrArg _ (wS (by omega))), ⟨HLT.out⟩, ⟨?_⟩, ⟨HB.out.groups hoi hall hgrow2 HB.out.size (Nat.le_succ _) (Nat.le_refl _)⟩, ⟨Nat.le_trans HS.out (Nat.le_trans hall.size hgrow2.size)⟩⟩
    rw [GTo_step (by rw [HIL.out]; omega) HIK.out hz (hoi.appended hown' (WalkArith.wf_i64 (by omega)))]
    exact hown2
   case measure => (try rw [wS (by omega)]); simp [intOf]; omega
  ·have t1 : decide ((k : Int) < (nl : Int)) = false := decide_eq_false (by omega)
   have t2 : decide (k < nl) = false := decide_eq_false hlt
   have hk : k = nl := by have := HK.out; omega
   subst hk
   clear hlt HK
   have c1 : wr.cell? ⟨Bw, 1, none⟩ = some (.slice Af nf cf) := (blk_cell (blk_below HBK.out HB.out) 1).trans rfl
   go_wp2_with fail
   clear c1
   go_loopw [35] (fun s35 wr => ∃ i : Nat, s35 = .int .i64 (i : Int) ∧ Aside0 (i ≤ nf) ∧ Aside0 (wr.ownsGroups (H := Unit) Try.prog 2 (w.heap.size + 1) 3 .i64 w.heap.size (k + 3 * i) (GTo I (k + 3 * i))) ∧ Aside0 (Below w.heap.size w wr) ∧ Aside0 (w.heap.size + 1 ≤ wr.heap.size))
    (fun s35 _ => nf - (intOf s35).toNat)
   case atStart => exact ⟨0, rfl, ⟨Nat.zero_le _⟩, HO, HB, HS⟩
   case round =>
    clear HO HB HS
    obtain ⟨i, rfl, HI, HO, HB, HS⟩ := hrel
    by_cases hi2 : i < nf
    ·have t3 : decide ((i : Int) < (nf : Int)) = true := decide_eq_true (by omega)
     have t4 : decide (i < nf) = true := decide_eq_true hi2
     have HIN := Aside0.mk hi2
     obtain ⟨ad, Aa, ca, ead, hrow0, hca, hCa⟩ := row_of_C HF.out i hi2
     subst ead
     have hrow := (HB.out.cell (World.block_lt_of_cell? w _ hrow0)).trans hrow0
     have hl3 : (forks.getD i []).length = 3 := H3.out _ (by rw [List.getD_eq_getElem?_getD, List.getElem?_eq_getElem (by rw [← HNF.out]; exact hi2)]; exact List.getElem_mem _)
     rw [hl3] at hrow hCa
     obtain ⟨fk, hfk⟩ : ∃ fk, fk = forks.getD i [] := ⟨_, rfl⟩
     rw [← hfk] at hCa hl3
     have HFK := Aside0.mk hfk
     obtain ⟨ad2, ead2, _⟩ := cell_of_C hCa 0 (by omega)
     subst ead2
     have HCA := Aside0.mk hCa
     clear hfk hl3 hCa hrow0
     go_wp2_with fail
     clear hrow
     go_loopw [42] (fun s42 wr => ∃ j : Nat, s42 = .int .i64 (j : Int) ∧ Aside0 (j ≤ 3) ∧ Aside0 (wr.ownsGroups (H := Unit) Try.prog 2 (w.heap.size + 1) 3 .i64 w.heap.size (k + 3 * i + j) (GTo I (k + 3 * i + j))) ∧ Aside0 (Below w.heap.size w wr) ∧ Aside0 (w.heap.size + 1 ≤ wr.heap.size))
      (fun s42 _ => 3 - (intOf s42).toNat)
     case atStart => exact ⟨0, rfl, ⟨Nat.zero_le _⟩, HO, HB, HS⟩
     case round =>
      clear HO HB HS
      obtain ⟨j, rfl, HJ, HO, HB, HS⟩ := hrel
      by_cases hj : j < 3
      ·have t5 : decide ((j : Int) < (3 : Int)) = true := decide_eq_true (by omega)
       have t6 : decide (j < 3) = true := decide_eq_true hj
       have HJ3 := Aside0.mk hj
       have hIk := HFORK.out i j hi2 hj
       have hpl : k + 3 * i + j < I.length := by rw [HIL.out]; omega
       have hwk := HWI.out _ hpl
       rw [hIk, ← HFK.out] at hwk
       rw [← HFK.out] at hIk
       obtain ⟨ad3, ead3, hcell0⟩ := cell_of_C HCA.out j hj
       obtain rfl := Option.some.inj ead3
       have hcell := (HB.out.cell (World.block_lt_of_cell? w _ hcell0)).trans hcell0
       obtain ⟨e, he⟩ : ∃ e, e = fk.getD j 0 := ⟨_, rfl⟩
       rw [← he] at hcell hIk hwk
       have hkey := keyOf_int_mk Try.underlying2 hwk
       have HIK := Aside0.mk hIk
       have HPL := Aside0.mk hpl
       have hs := HS.out
       have c2 : wr.cell? ⟨Bw, 0, none⟩ = some (.slice Al k cl) := (blk_cell (blk_below HBK.out HB.out) 0).trans rfl
       have hod : (wr.drew).ownsGroups (H := Unit) Try.prog 2 (w.heap.size + 1) 3 .i64 w.heap.size (k + 3 * i + j) (GTo I (k + 3 * i + j)) := HO.out
       obtain ⟨U, hUU⟩ : ∃ U : Nat, U = k + i := ⟨_, rfl⟩
       have hu : IntKind.i64.wrap ((k : Int) + (i : Int)) = (U : Int) := by rw [i64_w]; unfold wrap64; omega
       have HU := Aside0.mk hUU
       have hoe : ((wr.alloc (.cells #[.int .i64 (U : Int)] 3)).drew).ownsGroups (H := Unit) Try.prog 2 (w.heap.size + 1) 3 .i64 w.heap.size (k + 3 * i + j) (GTo I (k + 3 * i + j)) := hod.kept (World.grownBy_alloc wr.drew _ none) (by simp) (fun es clock _ x _ => by cases x.val.ownBlock <;> simp)
       obtain ⟨va, za, hra, hata, hoia, hzla, hbacka⟩ := hod.at webKey Try.underlying81 (webZero _) (by unfold maxLen; omega) hkey
       obtain ⟨vb, zb, hrb, hatb, hoib, hzlb, hbackb⟩ := hoe.at webKey Try.underlying81 (webZero _) (by unfold maxLen; omega) hkey
       have HATA := Aside0.mk hata
       have HATB := Aside0.mk hatb
       have HBKA := Aside0.mk hbacka
       have HBKB := Aside0.mk hbackb
       have HOIA := Aside0.mk hoia
       have HOIB := Aside0.mk hoib
       clear hata hatb hbacka hbackb hoia hoib hod hoe he hIk hwk hcell0 hpl hUU
       go_wp2_with fail
       go_region_law (first
        | (refine step_append_own_at rfl (.tmp 50) (.tmp 58) 83 rfl (w.heap.size + 1) 3 i0 (.int .i64 0) 1 8 Try.underlying83 hi hz0 hz1 hz2 rfl (by decide) va za.length (za.map (Value.int .i64)) ?s (HOIA.out.1.alloc _) ⟨wr.heap.size, 0, none⟩ 1 1 [.int .i64 (U : Int)] (by simp [Act.eval, Act.put]) rfl (cell_one_new wr _ _) (ints_oneCell .i64 [(U : Int)]) (by unfold maxLen; omega) (by omega) (by simp; omega) ?_; (case s => (simp [Act.eval, Act.put]; done)); intro v' w1 hown' hgrow hnil hloc; have HOA := Aside0.mk (HOIA.out.appended (x := (U : Int)) (w1 := w1) hown' (WalkArith.wf_i64 (by have := HU.out; omega))); obtain ⟨w2, hrun2, hown2, hg2⟩ := HBKA.out w1 v' (za ++ [(U : Int)]) ((World.grownBy_alloc wr.drew _ _).trans hgrow) HOA.out (by simp; omega) (hloc.imp id (fun h => ⟨_, h, by simp⟩)); have HZ := Aside0.mk (GTo_zs (I := I) (p := k + 3 * i + j) (by have := HPL.out; omega) HOIA.out HATA.out); have HOW2 := Aside0.mk hown2; have HBB2 := Aside0.mk ((below_drew HB.out).groups HOIA.out ((World.grownBy_alloc wr.drew _ _).trans hgrow) hg2 HB.out.size (Nat.le_succ _) (Nat.le_refl _)); have HSZ2 := Aside0.mk (Nat.le_trans (show wr.heap.size ≤ w1.heap.size from Nat.le_trans (by simp) hgrow.size) hg2.size); have HST := Aside0.mk (GTo_step (I := I) (p := k + 3 * i + j) HPL.out (by rw [HIK.out, HU.out]) HZ.out HOA.out); clear hown' hgrow hnil hloc hown2 hg2)
        | (refine step_append_own_at rfl (.tmp 50) (.tmp 58) 83 rfl (w.heap.size + 1) 3 i0 (.int .i64 0) 1 8 Try.underlying83 hi hz0 hz1 hz2 rfl (by decide) vb zb.length (zb.map (Value.int .i64)) ?s HOIB.out.1 ⟨wr.heap.size, 0, none⟩ 1 1 [.int .i64 (U : Int)] (by simp [Act.eval, Act.put]) rfl (cell_one_new wr _ _) (ints_oneCell .i64 [(U : Int)]) (by unfold maxLen; omega) (by omega) (by simp; omega) ?_; (case s => (simp [Act.eval, Act.put]; done)); intro v' w1 hown' hgrow hnil hloc; have HOA := Aside0.mk (HOIB.out.appended (x := (U : Int)) (w1 := w1) hown' (WalkArith.wf_i64 (by have := HU.out; omega))); obtain ⟨w2, hrun2, hown2, hg2⟩ := HBKB.out w1 v' (zb ++ [(U : Int)]) hgrow HOA.out (by simp; omega) (hloc.imp id (fun h => ⟨_, h, Nat.le_of_eq rfl⟩)); have HZ := Aside0.mk (GTo_zs (I := I) (p := k + 3 * i + j) (by have := HPL.out; omega) HOIB.out HATB.out); have HOW2 := Aside0.mk hown2; have HBB2 := Aside0.mk ((below_drew (below_alloc HB.out (.cells #[.int .i64 (U : Int)] 3))).groups HOIB.out hgrow hg2 (Nat.le_trans HB.out.size (by simp)) (Nat.le_succ _) (Nat.le_refl _)); have HSZ2 := Aside0.mk (Nat.le_trans (show wr.heap.size ≤ w1.heap.size from Nat.le_trans (by simp) hgrow.size) hg2.size); have HST := Aside0.mk (GTo_step (I := I) (p := k + 3 * i + j) HPL.out (by rw [HIK.out, HU.out]) HZ.out HOA.out); clear hown' hgrow hnil hloc hown2 hg2))
       all_goals
        go_wp2_with fail
        go_roundw
        case rel => exact ⟨j + 1, (by first | rfl | exact congrArg _ (wS (by omega))), ⟨HJ3.out⟩, ⟨by rw [show k + 3 * i + (j + 1) = k + 3 * i + j + 1 from rfl, HST.out]; exact HOW2.out⟩, HBB2, ⟨Nat.le_trans HS.out HSZ2.out⟩⟩
        case measure => have := HJ3.out; (try rw [wS (by omega)]); simp [intOf]; omega
      ·have t5 : decide ((j : Int) < (3 : Int)) = false := decide_eq_false (by omega)
       have t6 : decide (j < 3) = false := decide_eq_false hj
       have hj3 : j = 3 := by have := HJ.out; omega
       subst hj3
       clear hj
       go_wp2_with fail
       go_roundw
       case rel => exact ⟨i + 1, (by first | rfl | exact congrArg _ (wS (by omega))), ⟨HIN.out⟩, HO, HB, HS⟩
       case measure => (try rw [wS (by omega)]); simp [intOf]; omega
    ·have t3 : decide ((i : Int) < (nf : Int)) = false := decide_eq_false (by omega)
     have t4 : decide (i < nf) = false := decide_eq_false hi2
     have hi : i = nf := by have := HI.out; omega
     clear hi2
     go_wp2_with fail
     go_ret
     refine ⟨rfl, ?_, HB.out⟩
     rw [HIL.out, ← hi]
     exact HO.out

end
section
open Go.RowKit Go.Proofs.YtnlhhbnoccobmaaW.PrintWords Go.Proofs.YtnlhhbnoccobmaaW.PrintLast Go.Proofs.YtnlhhbnoccobmaaW.PrintMore
attribute [local go_sem] max2_int min2_int max_two min_two max_three min_three max_four min_four   -- for this text's walks alone
set_option linter.unusedVariables false
set_option linter.unusedSimpArgs false

/-! ### impl_Web_partsOf: function 99 (by hand) -/
open Go.Proofs.Ytnlhhbnoccobmaa.Mem Go.Proofs.Ytnlhhbnoccobmaa.Web Go.Maps
set_option maxHeartbeats 2000000 in
set_option maxRecDepth 100000 in
theorem nodes_walk (nl nf : Nat) (Bw : Nat) (Al : Option Addr) (cl : Nat) (Af : Option Addr) (cf : Nat) (h8 : nl + nf ≤ 4611686018427387904) (w : World) (hb : w.heap[Bw]? = some (.cells #[.slice Al nl cl, .slice Af nf cf] 28 (0, 0))) :
  Calls Try.prog 93 #[.pointer (some ⟨Bw, 0, none⟩)] w fun e w' => e = .returned (.int .i64 ((nl + nf : Nat) : Int)) ∧ ∃ nd, w' = w.drewN nd := by
 have c0 : w.cell? ⟨Bw, 0, none⟩ = some (.slice Al nl cl) := (blk_cell hb 0).trans rfl
 have c1 : w.cell? ⟨Bw, 1, none⟩ = some (.slice Af nf cf) := (blk_cell hb 1).trans rfl
 have hu : IntKind.i64.wrap ((nl : Int) + (nf : Int)) = ((nl + nf : Nat) : Int) := by rw [i64_w]; unfold wrap64; omega
 clear hb
 go_enter Try.func93, Try.ntmps93
 go_wp2
 go_quiet (fail)
 go_wp2
 go_ret
 exact ⟨by first | rfl | (rw [hu]), _, rfl⟩
/-- The numbers from 0 on as far as one of them, and noughts behind them. -/
def upTo (n i : Nat) : List Int := (List.range n).map fun a => if a < i then (a : Int) else 0
theorem upTo_zero (n : Nat) : upTo n 0 = List.replicate n 0 := by
 unfold upTo
 rw [List.map_congr_left (g := fun _ => (0 : Int)) (fun a _ => if_neg (Nat.not_lt_zero _)), List.map_const']; simp
theorem upTo_succ (n i : Nat) (h : i < n) : (upTo n i).set i (i : Int) = upTo n (i + 1) := by
 apply List.ext_getElem
 ·simp [upTo]
 ·intro j h1 h2
  have hj : j < n := by simpa [upTo] using h2
  simp only [upTo, List.getElem_set, List.getElem_map, List.getElem_range]
  by_cases e : i = j
  ·subst e; rw [if_pos rfl, if_pos (by omega)]
  ·rw [if_neg e]
   by_cases g : j < i
   ·rw [if_pos g, if_pos (by omega)]
   ·rw [if_neg g, if_neg (by omega)]
theorem upTo_full (n : Nat) : upTo n n = ints (List.range n) := by
 unfold upTo ints
 exact List.map_congr_left fun a ha => if_pos (List.mem_range.1 ha)
theorem upTo_len (n i : Nat) : (upTo n i).length = n := by simp [upTo]
theorem groups_own {H : Type} {P : Program} {k : TypeId} {w : World} {base : Nat} {e : TypeId} {q : IntKind} {b n : Nat} {D : DataW H} (h : w.ownsGroups P k base e q b n D) : w.ownsMap P k (rowElem w base e q) b n D := by
 obtain ⟨es, clock, hb, F, hs, hD, _⟩ := h
 exact ⟨es, clock, hb, F, hs, hD⟩
/-- A slice that owns two numbers, cell by cell. -/
theorem own_two {w : World} {base : Nat} {e : TypeId} {v : Value} {x y : Int} (h : w.ownsInts base e .i64 v [x, y]) : ∃ g cap, v = .slice (some ⟨g, 0, none⟩) 2 cap ∧ base ≤ g ∧ g < w.heap.size ∧ w.cell? ⟨g, 0, none⟩ = some (.int .i64 x) ∧ w.cell? ⟨g, 1, none⟩ = some (.int .i64 y) := by
 have hR : Kd.R (Kd.int .i64) e w base (fun k => base ≤ k) v [x, y] := R_of_own h.1
 obtain ⟨A, c, rfl, hc, hC⟩ := Kd.R_reads hR
 obtain ⟨ad, rfl, h0⟩ := cell_of_C hC 0 (by show 0 < 2; omega)
 obtain ⟨ad', he, h1⟩ := cell_of_C hC 1 (by show 1 < 2; omega)
 obtain rfl := Option.some.inj he
 obtain ⟨g, rfl⟩ := Kd.R_head hR
 rw [add_plain] at h0 h1
 exact ⟨g, c, rfl, Kd.R_base hR g (by simp [Value.ownBlock]), Kd.R_lt hR g (by simp [Value.ownBlock]), h0, h1⟩
theorem inv_key {key : Value} {kl : Lit} (h : keyOf Try.prog 2 key = some kl) : ∃ x, key = Value.int .i64 x := by
 obtain ⟨x, hx, _⟩ := keyOf_int_inv Try.underlying2 h
 exact ⟨x, hx⟩
/-- What came out of a map that was filled so: an edge and where it stands. -/
theorem come_of {w1 : World} {base : Nat} {I : List (Int × Nat)} {x : Int} {c : Value} {kl : Lit} {y : DataW Unit × List MemPlace} (hkey : keyOf Try.prog 2 (.int .i64 x) = some kl) (hR : rowElem w1 base 3 .i64 c = some y) (hat : ∀ zd, (GTo I I.length).atKey kl zd = y.1) :
  kl = keyL x ∧ w1.ownsInts base 3 .i64 c (ints (ends I x)) ∧ ends I x ≠ [] := by
 obtain ⟨x', hx, rfl, _⟩ := keyOf_int_inv Try.underlying2 hkey
 injection hx with _ hx
 subst hx
 obtain ⟨zs, ho, rfl⟩ := rowElem_inv hR
 have hz := GTo_zs (I := I) (p := I.length) (e := x) (Nat.le_refl _) ho (hat .nil)
 rw [List.take_length] at hz
 refine ⟨rfl, by rw [← hz]; exact ho, fun h0 => ?_⟩
 have h1 := hat .nil
 have h2 := hat (.lit (.bool true))
 have g1 := GTo_at I x .nil I.length (Nat.le_refl _)
 have g2 := GTo_at I x (.lit (.bool true)) I.length (Nat.le_refl _)
 rw [List.take_length, if_pos h0] at g1 g2
 have : (DataW.nil : DataW Unit) = .lit (.bool true) := g1.symm.trans (h1.trans (h2.symm.trans g2))
 cases this
theorem mnN (a b : Nat) : mn (a : Int) (b : Int) = ((min a b : Nat) : Int) := by unfold mn; omega
theorem same_keyL (e x : Int) : (keyL e).sameKey (keyL x) = (e == x) := by
 unfold keyL Lit.sameKey
 rw [Bool.eq_iff_iff]; simp
theorem ints_put (l : List Nat) (i x : Nat) : (ints l).set i (x : Int) = ints (l.set i x) := by unfold ints; rw [List.map_set]
theorem left_step (p : Bool) (L : List Int) (e x : Int) : (((!p) && !L.contains e) && !(e == x)) = ((!p) && !(L ++ [x]).contains e) := by
 have h : (L ++ [x]).contains e = (L.contains e || e == x) := by
  rw [Bool.eq_iff_iff, List.contains_iff_mem, Bool.or_eq_true, List.contains_iff_mem, List.mem_append, List.mem_singleton, beq_iff_eq]
 rw [h]
 cases p <;> cases L.contains e <;> cases (e == x) <;> rfl
theorem made_intsW (m : Nat) : madeCells (Value.cells (.int .i64 0)) m = (nums .i64 (List.replicate m 0)).toArray := made_nums m
set_option maxHeartbeats 4000000 in
set_option maxRecDepth 100000 in
theorem partsOf_walk (legs : List Int) (forks : List (List Int)) (n Bw : Nat) (Al : Option Addr) (cl : Nat) (Af : Option Addr) (cf : Nat) (hn : n = legs.length + forks.length) (h8 : n ≤ 8) (h3 : ∀ f ∈ forks, f.length = 3) (hwf : ∀ p ∈ inc legs forks, (Lit.int .i64 p.1).wf = true) (h2 : Two (inc legs forks) n) (w : World)
  (hb : w.heap[Bw]? = some (.cells #[.slice Al legs.length cl, .slice Af forks.length cf] 28 (0, 0))) (hl : Kd.C (Kd.int .i64) w Al legs.length legs) (hf : Kd.C (Kd.slice 2 (Kd.int .i64)) w Af forks.length forks) :
  Calls Try.prog 99 #[.pointer (some ⟨Bw, 0, none⟩)] w fun e w' => ∃ v0_ : Value, e = .returned v0_ ∧ Kd.R (Kd.int .i64) 3 w' w.heap.size (fun _ => True) v0_ (ints ((List.range n).map (lbl (inc legs forks)))) ∧ Below w.heap.size w w' := by
 have hmk := make_ints (P := Try.prog) Try.underlying83 info_webint (n : Int) n rfl (by omega)
 have HN := Aside0.mk hn
 have H8 := Aside0.mk h8
 have H3 := Aside0.mk h3
 have HWF := Aside0.mk hwf
 have H2 := Aside0.mk h2
 have HBK := Aside0.mk hb
 have HL := Aside0.mk hl
 have HF := Aside0.mk hf
 obtain ⟨Bo, hBo⟩ : ∃ Bo, Bo = w.heap.size := ⟨_, rfl⟩
 have HBO := Aside0.mk hBo
 clear hn h3 hwf h2 hb hl hf
 go_enter Try.func99, Try.ntmps99
 go_wp2_with (first
  | (go_at_call 93; refine (nodes_walk legs.length forks.length Bw Al cl Af cf (by have := HN.out; have := H8.out; omega) _ HBK.out).mono ?_; rintro e w1 ⟨rfl, ⟨nd, rfl⟩⟩; rw [← HN.out]))
 rw [← hBo]
 have HH0 : Aside0 (((w.drewN nd).alloc (.cells (nums .i64 (List.replicate n 0)).toArray 3)).heap[Bo]? = some (.cells (nums .i64 (upTo n 0)).toArray 3 (0, 0))) := ⟨by rw [upTo_zero]; exact new_at hBo⟩
 have HB0 : Aside0 (Below w.heap.size w ((w.drewN nd).alloc (.cells (nums .i64 (List.replicate n 0)).toArray 3))) := ⟨below_alloc (pw_below_drewN (Below.refl _ _) _) _⟩
 clear hBo hmk
 go_loopw [13] (fun s13 wr => ∃ i : Nat, s13 = .int .i64 (i : Int) ∧ Aside0 (i ≤ n) ∧ Aside0 (wr.heap[Bo]? = some (.cells (nums .i64 (upTo n i)).toArray 3 (0, 0))) ∧ Aside0 (Below w.heap.size w wr))
  (fun s13 _ => n - (intOf s13).toNat)
 case atStart => exact ⟨0, rfl, ⟨Nat.zero_le _⟩, HH0, HB0⟩
 case round =>
  clear HH0 HB0
  obtain ⟨i, rfl, HI, HH, HB⟩ := hrel
  by_cases hi : i < n
  ·have t1 : decide ((i : Int) < (n : Int)) = true := decide_eq_true (by omega)
   have t2 : decide (i < n) = true := decide_eq_true hi
   have hx := (blk_cell HH.out i).trans (nums_get _ i (by rw [upTo_len]; exact hi))
   have hfz := blk_frozen HH.out i
   go_wp2_with fail
   go_roundw
   case rel => exact ⟨i + 1, (by first | rfl | exact congrArg _ (wS (by omega))), ⟨by omega⟩, ⟨by rw [← upTo_succ n i hi, ← nums_set]; exact blk_set HH.out _ _⟩, ⟨below_grown HB.out (grown_set (grown_refl _ _) i _) (by have := HBO.out; omega)⟩⟩
   case measure => (try rw [wS (by omega)]); simp [intOf]; omega
  ·have t1 : decide ((i : Int) < (n : Int)) = false := decide_eq_false (by omega)
   have t2 : decide (i < n) = false := decide_eq_false hi
   have hin : i = n := by have := HI.out; omega
   subst hin
   clear hi
   have HH1 : Aside0 (wr.heap[Bo]? = some (.cells (nums .i64 (ints (List.range i))).toArray 3 (0, 0))) := ⟨by rw [← upTo_full]; exact HH.out⟩
   go_wp2_with fail
   clear HH
   go_loopw [23] (fun s23 wr => ∃ (t : Nat) (out : List Nat), s23 = .int .i64 (t : Int) ∧ Aside0 (t ≤ i) ∧ Aside0 (Rounds (inc legs forks) i t out) ∧ Aside0 (wr.heap[Bo]? = some (.cells (nums .i64 (ints out)).toArray 3 (0, 0))) ∧ Aside0 (Below w.heap.size w wr))
    (fun s23 _ => i - (intOf s23).toNat)
   case atStart => exact ⟨0, _, rfl, ⟨Nat.zero_le _⟩, ⟨.zero⟩, HH1, HB⟩
   case round =>
    clear HH1 HB
    obtain ⟨t, out, rfl, HT, HRO, HH, HB⟩ := hrel
    by_cases ht : t < i
    ·have t3 : decide ((t : Int) < (i : Int)) = true := decide_eq_true (by omega)
     have t4 : decide (t < i) = true := decide_eq_true ht
     have HTI := Aside0.mk ht
     obtain ⟨wo, hwo⟩ : ∃ wo, wo = wr := ⟨wr, rfl⟩
     subst hwo
     go_wp2_with (first
      | (go_at_call 96; refine (stands_walk legs forks Bw Al cl Af cf (by have := HN.out; have := H8.out; omega) H3.out HWF.out wo (blk_below HBK.out HB.out) (Kd.C_below HL.out HB.out) (Kd.C_below HF.out HB.out)).mono ?_; rintro e w1 ⟨rfl, hgr1, hb1⟩; have HGR := Aside0.mk hgr1; have HB1 := Aside0.mk hb1; clear hgr1 hb1)
      | (at_range; refine wpList_range_own _ rfl _ 81 rfl 2 83 webKey Try.underlying81 _ wo.heap.size (inc legs forks).length _ rfl (groups_own HGR.out) ?_; intro w2 hrg2 hg2 hs2)
      | go_in)
     go_frame
     obtain ⟨I, hI⟩ : ∃ I, I = inc legs forks := ⟨_, rfl⟩
     rw [← hI] at hrg2
     have HII := Aside0.mk hI
     have HH2 : Aside0 (w2.heap[Bo]? = some (.cells (nums .i64 (ints (([] : List Int).foldl (relax I) out))).toArray 3 (0, 0))) := ⟨blk_grown (blk_below HH.out HB1.out) hg2 (by simp)⟩
     have HRG2 := Aside0.mk hrg2
     have HL2 : Aside0 (∀ e, Maps.has (GTo I I.length) (keyL e) = ((!(ends I e).isEmpty) && !([] : List Int).contains e)) := ⟨fun e => by
      have h := GTo_has I e I.length (Nat.le_refl _)
      rw [List.take_length] at h
      rw [h]; simp⟩
     have HG2 := Aside0.mk (grown_of_none hg2 (some Bo))
     have HBW := Aside0.mk (blk_lt HH.out)
     clear hI hrg2 hg2 hs2
     go_loopw [6] (fun _ wr => ∃ (left : Lit → Bool) (cnt : Nat) (L : List Int), Aside0 (wr.ranges Try.prog 2 (rowElem (H := Unit) w1 (wo.heap.size + 1) 3 .i64) wo.heap.size w1.heap.size I.length (GTo I I.length) left cnt) ∧ Aside0 (∀ e, left (keyL e) = ((!(ends I e).isEmpty) && !L.contains e)) ∧ Aside0 (∀ e ∈ L, ∃ u, (e, u) ∈ I) ∧ Aside0 (wr.heap[Bo]? = some (.cells (nums .i64 (ints (L.foldl (relax I) out))).toArray 3 (0, 0))) ∧ Aside0 (w1.grownBy wr (some Bo)))
      (fun _ wr => wr.rangeLeft wo.heap.size w1.heap.size)
     case atStart => exact ⟨_, _, [], by rw [HII.out]; rw [HII.out] at HRG2; exact HRG2, HL2, ⟨by simp⟩, HH2, HG2⟩
     case round =>
      clear HH2 HRG2 HL2 HG2
      obtain ⟨left, cnt, L, HRG, HLE, HLI, HHO, HG⟩ := hrel
      have h2 := H2.out
      rw [← HII.out] at h2
      have hro := HRO.out
      rw [← HII.out] at hro
      have hfit := (fold_keep h2 L out HLI.out (rounds_fits h2 hro)).1
      have HFIT := Aside0.mk hfit
      clear hro
      go_wp2_with (first
       | (at_next; refine wpList_next_ranges (α := Int) (β := Value) _ rfl _ rfl 2 webKey (rowElem (H := Unit) w1 (wo.heap.size + 1) 3 .i64) (Value.int .i64) id (fun key kl h => inv_key h) (fun v y _ => ⟨v, rfl⟩) wo.heap.size w1.heap.size I.length (GTo I I.length) left cnt rfl HRG.out ?_ ?_)
       | go_in)
      ·intro hc0 hl0
       have hround : Round I out (L.foldl (relax I) out) := by
        refine ⟨L, fun e => ⟨HLI.out e, fun ⟨u, hu⟩ => ?_⟩, rfl⟩
        have h := HLE.out e
        rw [hl0] at h
        have hne : ends I e ≠ [] := fun h0 => by have := mem_ends.2 hu; rw [h0] at this; exact absurd this (by simp)
        cases hc : L.contains e with
        | true => exact List.contains_iff_mem.1 hc
        | false =>
         rw [hc] at h
         cases hh : ends I e with
         | nil => exact absurd hh hne
         | cons _ _ => rw [hh] at h; simp at h
       have HROU := Aside0.mk hround
       clear hround
       go_wp2
       go_roundw
       case rel => exact ⟨t + 1, L.foldl (relax I) out, (by first | rfl | exact congrArg _ (wS (by omega))), ⟨HTI.out⟩, ⟨.succ HRO.out (by rw [← HII.out]; exact HROU.out)⟩, HHO, ⟨below_grown (below_step HB.out HB1.out) HG.out (by have := HBO.out; omega)⟩⟩
       case measure => (try rw [wS (by omega)]); simp [intOf]; omega
      ·intro x c kl d ps w3 cnt3 hkey hlk hR hat hrg3 hlt3 hg3 hs3 hen
       obtain ⟨rfl, hown, hne⟩ := come_of hkey hR hat
       have hlx := HLE.out x
       rw [hlk] at hlx
       obtain ⟨u, hu⟩ := List.exists_mem_of_ne_nil _ hne
       obtain ⟨a, b, hab, ha, hb, hj, _⟩ := h2.at_ (mem_ends.1 hu)
       rw [hab] at hown
       obtain ⟨g, cap, rfl, hg1, hg2, hc0, hc1⟩ := own_two hown
       obtain ⟨O, hO⟩ : ∃ O, O = L.foldl (relax I) out := ⟨_, rfl⟩
       have hho := HHO.out
       have hf := HFIT.out
       rw [← hO] at hho hf
       have hol := hf.len
       have hoi : (ints O).length = O.length := ints_len O
       have HOE := Aside0.mk hO
       have hBog : Bo ≠ g := by have := HBW.out; omega
       have hgr : g ≠ w1.heap.size := by omega
       have hBor : Bo ≠ w1.heap.size := by have := HBW.out; have := HB1.out.size; omega
       have hBom : Bo ≠ wo.heap.size := by have := HBW.out; omega
       have hk0 := hg3.cell (HG.out.cell hc0 (by simp; exact Ne.symm hBog)) (by simp; exact hgr)
       have hk1 := hg3.cell (HG.out.cell hc1 (by simp; exact Ne.symm hBog)) (by simp; exact hgr)
       have hh3 := blk_grown hho hg3 (by simp; exact hBor)
       have hxa := (blk_cell hh3 a).trans (nums_get _ a (by omega))
       have hxb := (blk_cell hh3 b).trans (nums_get _ b (by omega))
       rw [ints_getD O a (by omega)] at hxa
       rw [ints_getD O b (by omega)] at hxb
       obtain ⟨lo, hlo⟩ : ∃ lo, lo = low2 O a b := ⟨_, rfl⟩
       obtain ⟨va, hva⟩ : ∃ va, va = O.getD a 0 := ⟨_, rfl⟩
       obtain ⟨vb, hvb⟩ : ∃ vb, vb = O.getD b 0 := ⟨_, rfl⟩
       rw [← hva] at hxa
       rw [← hvb] at hxb
       have hmn : (if vb < va then (vb : Int) else (va : Int)) = (lo : Int) := by
        rw [hlo, low2]
        show _ = ((min (O.getD a 0) (O.getD b 0) : Nat) : Int)
        rw [← hva, ← hvb]
        split <;> omega
       have HLO := Aside0.mk hlo
       have HH3 := Aside0.mk hh3
       have HFO := Aside0.mk hf
       have HOI := Aside0.mk hoi
       have HRG3 := Aside0.mk hrg3
       have HG3 := Aside0.mk (HG.out.andThen hg3 (fun j hj => by cases hj; exact Or.inl (Nat.le_refl _)))
       have HAB := Aside0.mk hab
       have HJ := Aside0.mk hj
       have HLK := Aside0.mk hlk
       have HLT3 := Aside0.mk hlt3
       have HBOM := Aside0.mk hBom
       have HBOR := Aside0.mk hBor
       have HBOG := Aside0.mk hBog
       have HU := Aside0.mk (mem_ends.1 hu)
       clear hva hvb hO hlo hlx hlk hkey hR hat hne hu hown hg3 hs3 hf hol hoi hho hh3 hrg3 hlt3 hfit h2 hc0 hc1 hBog hgr hBor hBom hab hj hg1 hg2
       go_wp2_with fail
       go_quiet (fail)
       (try simp only [hmn])
       clear hmn
       obtain ⟨w4, hw4⟩ : ∃ w4, w4 = w3.drewN nq := ⟨_, rfl⟩
       rw [← hw4]
       have HH4 : Aside0 (w4.heap[Bo]? = some (.cells (nums .i64 (ints O)).toArray 3 (0, 0))) := ⟨by rw [hw4]; exact HH3.out⟩
       have HW4 := Aside0.mk hw4
       have hk0 : w4.cell? ⟨g, 0, none⟩ = some (.int .i64 (a : Int)) := by rw [hw4]; exact hk0
       have hk1 : w4.cell? ⟨g, 1, none⟩ = some (.int .i64 (b : Int)) := by rw [hw4]; exact hk1
       have hxa : w4.cell? ⟨Bo, a, none⟩ = some (.int .i64 (va : Int)) := by rw [hw4]; exact hxa
       have hfa := blk_frozen HH4.out a
       have hb4 := blk_set HH4.out a (.int .i64 (lo : Int))
       rw [nums_set] at hb4
       have hxb4 := (blk_cell hb4 b).trans (nums_get _ b (by rw [List.length_set, HOI.out, HFO.out.len]; exact hb))
       have hfb := blk_frozen hb4 b
       have HB4 := Aside0.mk hb4
       clear hw4 hb4
       go_wp2_with fail
       go_region
       all_goals
        have HG5 : Aside0 (w3.grownBy ((w4.setCell ⟨Bo, a, none⟩ (.int .i64 (lo : Int))).setCell ⟨Bo, b, none⟩ (.int .i64 (lo : Int))).drew (some Bo)) := ⟨grown_drew (grown_set (grown_set (by rw [HW4.out]; exact grown_drewN (grown_refl _ _) _) _ _) _ _)⟩
        have HR5 := Aside0.mk (HRG3.out.kept HG5.out (by simp; exact Ne.symm HBOM.out) (by simp; exact Ne.symm HBOR.out))
        have HH5 : Aside0 (((w4.setCell ⟨Bo, a, none⟩ (.int .i64 (lo : Int))).setCell ⟨Bo, b, none⟩ (.int .i64 (lo : Int))).drew.heap[Bo]? = some (.cells (nums .i64 (ints ((L ++ [x]).foldl (relax I) out))).toArray 3 (0, 0))) := ⟨by
         have e : (L ++ [x]).foldl (relax I) out = relax2 O a b := by
          rw [List.foldl_append, ← HOE.out]
          show relax I O x = _
          unfold relax; rw [HAB.out]; rfl
         have h := blk_drew (blk_set HB4.out b (.int .i64 (lo : Int)))
         rw [nums_set, ints_put, ints_put, HLO.out] at h
         rw [e, HLO.out]
         exact h⟩
        go_wp2_with fail
        go_roundw
        case rel =>
         refine ⟨_, cnt3, L ++ [x], HR5, ⟨fun e => ?_⟩, ⟨fun e he => ?_⟩, HH5, ⟨grown_trans HG3.out HG5.out⟩⟩
         ·show (left (keyL e) && !(keyL e).sameKey (keyL x)) = _
          rw [HLE.out e, same_keyL]
          exact left_step _ _ _ _
         ·rcases List.mem_append.1 he with q | q
          ·exact HLI.out e q
          ·rw [List.mem_singleton] at q; rw [q]; exact ⟨_, HU.out⟩
        case measure => rw [HR5.out.left_eq, HRG.out.left_eq]; exact HLT3.out
    ·have t3 : decide ((t : Int) < (i : Int)) = false := decide_eq_false (by omega)
     have t4 : decide (t < i) = false := decide_eq_false ht
     have hti : t = i := by have := HT.out; omega
     subst hti
     clear ht
     go_wp2_with fail
     go_ret
     refine ⟨_, rfl, ?_, HB.out⟩
     have e := rounds_lbl H2.out HRO.out
     have hl : (ints out).length = t := by rw [e, ints_len]; simp
     rw [← e]
     exact R_of_block HH.out hl (by have := H8.out; unfold maxLen; omega) (by have := HBO.out; omega)

end
section
open Go.RowKit Go.Proofs.YtnlhhbnoccobmaaW.PrintWords Go.Proofs.YtnlhhbnoccobmaaW.PrintLast Go.Proofs.YtnlhhbnoccobmaaW.PrintMore
attribute [local go_sem] max2_int min2_int max_two min_two max_three min_three max_four min_four   -- for this text's walks alone
set_option linter.unusedVariables false
set_option linter.unusedSimpArgs false

/-! ### impl_IsWeb: function 21 (by hand) -/
open Go.Proofs.Ytnlhhbnoccobmaa.Mem Go.Proofs.Ytnlhhbnoccobmaa.Web Go.Proofs.Ytnlhhbnoccobmaa.Pure Go.Maps
/-- Where the first true one stands; -1 without one. -/
def firstT : List Bool → Nat → Int
 | [], _ => -1
 | b :: l, i => if b = true then (i : Int) else firstT l (i + 1)
theorem firstT_ge : ∀ (l : List Bool) (i : Nat), decide (0 ≤ firstT l i) = l.any id
 | [], _ => rfl
 | b :: l, i => by
  rw [firstT, List.any_cons]
  cases b with
  | true => rw [if_pos rfl]; simp
  | false => rw [if_neg (by simp)]; simpa using firstT_ge l (i + 1)
theorem firstT_skip {l : List Bool} : ∀ x, x ≤ l.length → (l.take x).any id = false → firstT l 0 = firstT (l.drop x) x
 | 0, _, _ => rfl
 | x + 1, hx, h => by
  rw [List.take_succ_eq_append_getElem (by omega), List.any_append] at h
  simp only [Bool.or_eq_false_iff] at h
  rw [firstT_skip x (by omega) h.1, List.drop_eq_getElem_cons (by omega), firstT]
  have h2 := h.2
  simp only [List.any_cons, List.any_nil, Bool.or_false, id] at h2
  rw [if_neg (by rw [h2]; simp)]
set_option maxHeartbeats 2000000 in
set_option maxRecDepth 100000 in
theorem web_1 (A : Option Addr) (n c : Nat) (w : World) : Calls Try.prog 95 #[.slice A n c] w fun e w' => e = .returned (.bool (n != 3)) ∧ w' = w := by
 cases h : (n != 3) with
 | true =>
  have h3 : n ≠ 3 := by simpa using h
  have t1 : ((n : Int) == 3) = false := by simp; omega
  go_enter Try.func95, Try.ntmps95
  go_wp2
  go_ret
  exact ⟨by first | rfl | (simp; omega), rfl⟩
 | false =>
  have t1 : n = 3 := by simpa using h
  subst t1
  go_enter Try.func95, Try.ntmps95
  go_wp2
  go_ret
  exact ⟨by first | rfl | simp, rfl⟩
set_option maxHeartbeats 2000000 in
set_option maxRecDepth 100000 in
theorem web_IndexFunc (forks : List (List Int)) (hl : forks.length ≤ 1000) (A : Option Addr) (c : Nat) (w : World) (hr : Kd.C (Kd.slice 2 (Kd.int .i64)) w A forks.length forks) :
  Calls Try.prog 164 #[.slice A forks.length c, .func (.func 95) #[] #[]] w fun e w' => e = .returned (.int .i64 (firstT (forks.map fun f => f.length != 3) 0)) ∧ ∃ nd, w' = w.drewN nd := by
 have HR := Aside0.mk hr
 obtain ⟨n, hn⟩ : ∃ n, n = forks.length := ⟨_, rfl⟩
 rw [← hn]
 have HN := Aside0.mk hn
 have hr : Kd.C (Kd.slice 2 (Kd.int .i64)) w A n forks := by rw [hn]; exact hr
 have HRN := Aside0.mk hr
 obtain ⟨bs, hbs⟩ : ∃ bs, bs = forks.map fun f => f.length != 3 := ⟨_, rfl⟩
 have HBS := Aside0.mk hbs
 have hbl : bs.length = n := by rw [hbs, hn]; simp
 have HBL := Aside0.mk hbl
 rw [← hbs]
 have hn1 : n ≤ 1000 := by omega
 clear hr hbs hbl hn
 go_enter Try.func164, Try.ntmps164
 go_wp2
 go_loopw [8] (fun i wr => ∃ x : Nat, i = .int .i64 (x : Int) ∧ Aside0 (x ≤ n) ∧ Aside0 ((bs.take x).any id = false) ∧ ∃ nd, wr = w.drewN nd)
  (fun i _ => n - (intOf i).toNat)
 case atStart => exact ⟨0, rfl, ⟨Nat.zero_le _⟩, ⟨rfl⟩, 0, rfl⟩
 case round =>
  obtain ⟨x, rfl, HX, HA, nd, rfl⟩ := hrel
  by_cases hlt : x < n
  ·have t1 : decide ((x : Int) < (n : Int)) = true := decide_eq_true (by omega)
   have t2 : decide (x < n) = true := decide_eq_true hlt
   obtain ⟨ad, Aa, ca, ead, hrow, hca, _⟩ := row_of_C HRN.out x hlt
   subst ead
   obtain ⟨ln, hln⟩ : ∃ ln, ln = (forks.getD x []).length := ⟨_, rfl⟩
   rw [← hln] at hrow
   have hb : bs.getD x false = (ln != 3) := by
    rw [HBS.out, List.getD_eq_getElem?_getD, List.getElem?_map, List.getElem?_eq_getElem (by rw [← HN.out]; exact hlt), hln, List.getD_eq_getElem?_getD, List.getElem?_eq_getElem (by rw [← HN.out]; exact hlt)]; rfl
   have HD := Aside0.mk (show bs.drop x = (ln != 3) :: bs.drop (x + 1) from by
    rw [List.drop_eq_getElem_cons (by rw [HBL.out]; exact hlt), ← hb, List.getD_eq_getElem?_getD, List.getElem?_eq_getElem (by rw [HBL.out]; exact hlt)]; rfl)
   have HT := Aside0.mk (show bs.take (x + 1) = bs.take x ++ [ln != 3] from by
    rw [List.take_succ_eq_append_getElem (by rw [HBL.out]; exact hlt), ← hb, List.getD_eq_getElem?_getD, List.getElem?_eq_getElem (by rw [HBL.out]; exact hlt)]; rfl)
   have HLT := Aside0.mk hlt
   clear hln hb
   have hc := fun W => web_1 Aa ln ca W
   cases hv : (ln != 3) with
   | true =>
    have HV := Aside0.mk hv
    rw [hv] at hc
    have HCC := Aside0.mk hc
    clear hv hc
    go_wp2_with (first | (go_at_call 95; refine (HCC.out _).mono ?_; rintro e w2 ⟨rfl, rfl⟩))
    go_ret
    refine ⟨?_, _, rfl⟩
    rw [firstT_skip x (by rw [HBL.out]; exact HX.out) HA.out, HD.out, firstT, HV.out, if_pos rfl]
    rfl
   | false =>
    have HV := Aside0.mk hv
    rw [hv] at hc
    have HCC := Aside0.mk hc
    clear hv hc
    go_wp2_with (first | (go_at_call 95; refine (HCC.out _).mono ?_; rintro e w2 ⟨rfl, rfl⟩))
    go_roundw
    case rel => exact ⟨x + 1, (by first | rfl | exact congrArg _ (wS (by omega))), ⟨HLT.out⟩, ⟨by rw [HT.out, List.any_append, HA.out, HV.out]; rfl⟩, _, rfl⟩
    case measure => (try rw [wS (by omega)]); simp [intOf]; omega
  ·have t1 : decide ((x : Int) < (n : Int)) = false := decide_eq_false (by omega)
   have t2 : decide (x < n) = false := decide_eq_false hlt
   have HXE := Aside0.mk (show x = n from by have := HX.out; omega)
   clear hlt
   go_wp2
   go_ret
   refine ⟨?_, _, rfl⟩
   rw [firstT_skip x (by rw [HBL.out]; exact HX.out) HA.out, List.drop_of_length_le (by rw [HBL.out, HXE.out]; exact Nat.le_refl _)]
   rfl
set_option maxHeartbeats 2000000 in
set_option maxRecDepth 100000 in
theorem web_ContainsFunc (forks : List (List Int)) (hl : forks.length ≤ 1000) (A : Option Addr) (c : Nat) (w : World) (hr : Kd.C (Kd.slice 2 (Kd.int .i64)) w A forks.length forks) :
  Calls Try.prog 94 #[.slice A forks.length c, .func (.func 95) #[] #[]] w fun e w' => e = .returned (.bool ((forks.map fun f => f.length != 3).any id)) ∧ ∃ nd, w' = w.drewN nd := by
 have HI := Aside0.mk (firstT_ge (forks.map fun f => f.length != 3) 0)
 have HR := Aside0.mk hr
 have HL := Aside0.mk hl
 clear hr hl
 go_enter Try.func94, Try.ntmps94
 go_wp2_with (first | (go_at_call 164; refine (web_IndexFunc forks HL.out A c _ HR.out).mono ?_; rintro e w1 ⟨rfl, ⟨nd, rfl⟩⟩))
 go_ret
 exact ⟨by rw [← HI.out]; rfl, _, rfl⟩
set_option maxHeartbeats 2000000 in
set_option maxRecDepth 100000 in
theorem web_2 (x nl : Nat) (Bw : Nat) (v : Value) (Al : Option Addr) (cl : Nat) (w : World) (h : w.cell? ⟨Bw, 0, none⟩ = some (.slice Al nl cl)) : Calls Try.prog 100 #[.int .i64 (x : Int), .pointer (some ⟨Bw, 0, none⟩)] w fun e w' => e = .returned (.bool (decide (nl ≤ x))) ∧ w' = w := by
 have t1 : decide ((nl : Int) ≤ (x : Int)) = decide (nl ≤ x) := by rw [decide_eq_decide]; omega
 go_enter Try.func100, Try.ntmps100
 go_wp2
 go_ret
 exact ⟨by first | rfl | simp [t1], rfl⟩
set_option maxHeartbeats 2000000 in
set_option maxRecDepth 100000 in
theorem web_IndexFunc2 (l : List Nat) (hl : l.length ≤ 1000) (A : Option Addr) (c nl Bw : Nat) (Al : Option Addr) (cl : Nat) (w : World) (hr : Kd.C (Kd.int .i64) w A (ints l).length (ints l)) (h1 : w.cell? ⟨Bw, 0, none⟩ = some (.slice Al nl cl)) :
  Calls Try.prog 165 #[.slice A (ints l).length c, .func (.func 100) #[] #[.pointer (some ⟨Bw, 0, none⟩)]] w fun e w' => e = .returned (.int .i64 (firstT (l.map fun x => decide (nl ≤ x)) 0)) ∧ ∃ nd, w' = w.drewN nd := by
 obtain ⟨n, hn⟩ : ∃ n, n = l.length := ⟨_, rfl⟩
 rw [ints_len, ← hn] at hr
 rw [ints_len, ← hn]
 have HRN := Aside0.mk hr
 have HN := Aside0.mk hn
 have H1 := Aside0.mk h1
 obtain ⟨bs, hbs⟩ : ∃ bs, bs = l.map fun x => decide (nl ≤ x) := ⟨_, rfl⟩
 have HBS := Aside0.mk hbs
 have hbl : bs.length = n := by rw [hbs, hn]; simp
 have HBL := Aside0.mk hbl
 rw [← hbs]
 have hn1 : n ≤ 1000 := by omega
 clear hr hbs hbl hn h1
 go_enter Try.func165, Try.ntmps165
 go_wp2
 go_loopw [8] (fun i wr => ∃ x : Nat, i = .int .i64 (x : Int) ∧ Aside0 (x ≤ n) ∧ Aside0 ((bs.take x).any id = false) ∧ ∃ nd, wr = w.drewN nd)
  (fun i _ => n - (intOf i).toNat)
 case atStart => exact ⟨0, rfl, ⟨Nat.zero_le _⟩, ⟨rfl⟩, 0, rfl⟩
 case round =>
  obtain ⟨x, rfl, HX, HA, nd, rfl⟩ := hrel
  by_cases hlt : x < n
  ·have t1 : decide ((x : Int) < (n : Int)) = true := decide_eq_true (by omega)
   have t2 : decide (x < n) = true := decide_eq_true hlt
   obtain ⟨ad, ead, hcell⟩ := cell_of_C HRN.out x hlt
   subst ead
   rw [ints_getD l x (by rw [← HN.out]; exact hlt)] at hcell
   obtain ⟨y, hy⟩ : ∃ y, y = l.getD x 0 := ⟨_, rfl⟩
   rw [← hy] at hcell
   have hb : bs.getD x false = decide (nl ≤ y) := by
    rw [HBS.out, List.getD_eq_getElem?_getD, List.getElem?_map, List.getElem?_eq_getElem (by rw [← HN.out]; exact hlt), hy, List.getD_eq_getElem?_getD, List.getElem?_eq_getElem (by rw [← HN.out]; exact hlt)]; rfl
   have HD := Aside0.mk (show bs.drop x = decide (nl ≤ y) :: bs.drop (x + 1) from by
    rw [List.drop_eq_getElem_cons (by rw [HBL.out]; exact hlt), ← hb, List.getD_eq_getElem?_getD, List.getElem?_eq_getElem (by rw [HBL.out]; exact hlt)]; rfl)
   have HT := Aside0.mk (show bs.take (x + 1) = bs.take x ++ [decide (nl ≤ y)] from by
    rw [List.take_succ_eq_append_getElem (by rw [HBL.out]; exact hlt), ← hb, List.getD_eq_getElem?_getD, List.getElem?_eq_getElem (by rw [HBL.out]; exact hlt)]; rfl)
   have HLT := Aside0.mk hlt
   clear hy hb
   have hc := fun nd => web_2 y nl Bw undef Al cl (w.drewN nd) H1.out
   cases hv : decide (nl ≤ y) with
   | true =>
    have HV := Aside0.mk hv
    rw [hv] at hc
    have HCC := Aside0.mk hc
    clear hv hc
    go_wp2_with (first | (go_at_call 100; refine (HCC.out _).mono ?_; rintro e w2 ⟨rfl, rfl⟩))
    go_ret
    refine ⟨?_, _, rfl⟩
    rw [firstT_skip x (by rw [HBL.out]; exact HX.out) HA.out, HD.out, firstT, HV.out, if_pos rfl]
    rfl
   | false =>
    have HV := Aside0.mk hv
    rw [hv] at hc
    have HCC := Aside0.mk hc
    clear hv hc
    go_wp2_with (first | (go_at_call 100; refine (HCC.out _).mono ?_; rintro e w2 ⟨rfl, rfl⟩))
    go_roundw
    case rel => exact ⟨x + 1, (by first | rfl | exact congrArg _ (wS (by omega))), ⟨HLT.out⟩, ⟨by rw [HT.out, List.any_append, HA.out, HV.out]; rfl⟩, _, rfl⟩
    case measure => (try rw [wS (by omega)]); simp [intOf]; omega
  ·have t1 : decide ((x : Int) < (n : Int)) = false := decide_eq_false (by omega)
   have t2 : decide (x < n) = false := decide_eq_false hlt
   have HXE := Aside0.mk (show x = n from by have := HX.out; omega)
   clear hlt
   go_wp2
   go_ret
   refine ⟨?_, _, rfl⟩
   rw [firstT_skip x (by rw [HBL.out]; exact HX.out) HA.out, List.drop_of_length_le (by rw [HBL.out, HXE.out]; exact Nat.le_refl _)]
   rfl
set_option maxHeartbeats 2000000 in
set_option maxRecDepth 100000 in
theorem web_ContainsFunc2 (l : List Nat) (hl : l.length ≤ 1000) (A : Option Addr) (c nl Bw : Nat) (Al : Option Addr) (cl : Nat) (w : World) (hr : Kd.C (Kd.int .i64) w A (ints l).length (ints l)) (h1 : w.cell? ⟨Bw, 0, none⟩ = some (.slice Al nl cl)) :
  Calls Try.prog 98 #[.slice A (ints l).length c, .func (.func 100) #[] #[.pointer (some ⟨Bw, 0, none⟩)]] w fun e w' => e = .returned (.bool ((l.map fun x => decide (nl ≤ x)).any id)) ∧ ∃ nd, w' = w.drewN nd := by
 have HI := Aside0.mk (firstT_ge (l.map fun x => decide (nl ≤ x)) 0)
 have HR := Aside0.mk hr
 have HL := Aside0.mk hl
 have H1 := Aside0.mk h1
 clear hr hl h1
 go_enter Try.func98, Try.ntmps98
 go_wp2_with (first | (go_at_call 165; refine (web_IndexFunc2 l HL.out A c nl Bw Al cl _ HR.out H1.out).mono ?_; rintro e w1 ⟨rfl, ⟨nd, rfl⟩⟩))
 go_ret
 exact ⟨by rw [← HI.out]; rfl, _, rfl⟩
/-- What the program says of webs: where all numbers of edges fit. -/
def wfW (legs : List Int) (forks : List (List Int)) : Bool := (inc legs forks).all fun p => (Lit.int .i64 p.1).wf
def impl_IsWeb.f (l0_0 : List Int) (l0_1 : List (List Int)) : Option Bool := if l0_0.length ≤ 17592186044416 ∧ l0_1.length ≤ 17592186044416 ∧ wfW l0_0 l0_1 = true then some (isWebC l0_0 l0_1) else none
theorem any_len (forks : List (List Int)) : (forks.map fun f => f.length != 3).any id = !(forks.all fun f => f.length == 3) := by
 induction forks with
 | nil => rfl
 | cons f F ih =>
  rw [List.map_cons, List.any_cons, ih, List.all_cons]
  show ((f.length != 3) || _) = _
  cases h : (f.length == 3) <;> simp [h, bne]
theorem any_root (n nl : Nat) (r : Nat → Nat) : (((List.range n).map r).map fun x => decide (nl ≤ x)).any id = !((List.range n).all fun v => decide (r v < nl)) := by
 induction List.range n with
 | nil => rfl
 | cons f F ih =>
  rw [List.map_cons, List.map_cons, List.any_cons, ih, List.all_cons]
  show (decide (nl ≤ r f) || _) = _
  by_cases h : r f < nl
  ·rw [decide_eq_true h, decide_eq_false (by omega)]; simp
  ·rw [decide_eq_false h, decide_eq_true (by omega)]; simp
set_option maxHeartbeats 4000000 in
set_option maxRecDepth 100000 in
theorem isWeb_walk (legs : List Int) (forks : List (List Int)) (Al : Option Addr) (cl : Nat) (Af : Option Addr) (cf : Nat) (h1 : legs.length ≤ 17592186044416) (h2 : forks.length ≤ 17592186044416) (hwf : ∀ p ∈ inc legs forks, (Lit.int .i64 p.1).wf = true) (w : World)
  (hl : Kd.C (Kd.int .i64) w Al legs.length legs) (hf : Kd.C (Kd.slice 2 (Kd.int .i64)) w Af forks.length forks) :
  Calls Try.prog 21 #[.agg #[.slice Al legs.length cl, .slice Af forks.length cf]] w fun e w' => e = .returned (.bool (isWebB legs forks)) ∧ Below w.heap.size w w' := by
 obtain ⟨N, hN⟩ : ∃ N, N = legs.length + forks.length := ⟨_, rfl⟩
 obtain ⟨I, hI⟩ : ∃ I, I = inc legs forks := ⟨_, rfl⟩
 obtain ⟨res, hres⟩ : ∃ res, res = isWebB legs forks := ⟨_, rfl⟩
 rw [← hres]
 have HRES := Aside0.mk hres
 unfold isWebB at hres
 have HBK := Aside0.mk (show (w.alloc (.cells #[.slice Al legs.length cl, .slice Af forks.length cf] 28)).heap[w.heap.size]? = some (.cells #[.slice Al legs.length cl, .slice Af forks.length cf] 28 (0, 0)) from new_at rfl)
 have HB1 := Aside0.mk (show Below w.heap.size w (w.alloc (.cells #[.slice Al legs.length cl, .slice Af forks.length cf] 28)) from below_alloc (Below.refl _ _) _)
 have c1 : (w.alloc (.cells #[.slice Al legs.length cl, .slice Af forks.length cf] 28)).cell? ⟨w.heap.size, 1, none⟩ = some (.slice Af forks.length cf) := (blk_cell HBK.out 1).trans rfl
 have HL := Aside0.mk hl
 have HF := Aside0.mk hf
 have HH1 := Aside0.mk h1
 have HH2 := Aside0.mk h2
 have HWF := Aside0.mk hwf
 have HN := Aside0.mk hN
 have HI := Aside0.mk hI
 by_cases h8 : 8 < N
 ·have t1 : decide ((8 : Int) < (N : Int)) = true := decide_eq_true (by omega)
  have t2 : decide (8 < N) = true := decide_eq_true h8
  have HE := Aside0.mk (show res = false from by rw [hres, decide_eq_false (by omega)]; rfl)
  clear hl hf h1 h2 hwf hN hI hres c1
  go_enter Try.func21, Try.ntmps21
  go_wp2_with (first
   | (go_at_call 93; refine (nodes_walk legs.length forks.length w.heap.size Al cl Af cf (by have := HH1.out; have := HH2.out; omega) _ HBK.out).mono ?_; rintro e w1 ⟨rfl, ⟨nd, rfl⟩⟩; rw [← HN.out]))
  go_ret
  exact ⟨by rw [HE.out]; rfl, pw_below_drewN HB1.out _⟩
 ·have t1 : decide ((8 : Int) < (N : Int)) = false := decide_eq_false (by omega)
  have t2 : decide (8 < N) = false := decide_eq_false h8
  have H8 := Aside0.mk (show N ≤ 8 from by omega)
  rw [decide_eq_true (show legs.length + forks.length ≤ 8 from by omega), Bool.true_and] at hres
  cases ha : (forks.all fun f => f.length == 3) with
  | false =>
   rw [ha, Bool.false_and, Bool.false_and] at hres
   have HA := Aside0.mk ha
   have HE := Aside0.mk hres
   clear hl hf h1 h2 hwf hN hI hres ha
   go_enter Try.func21, Try.ntmps21
   go_wp2_with (first
    | (go_at_call 93; refine (nodes_walk legs.length forks.length w.heap.size Al cl Af cf (by have := H8.out; have := HN.out; omega) _ HBK.out).mono ?_; rintro e w1 ⟨rfl, ⟨nd, rfl⟩⟩; rw [← HN.out])
    | (go_at_call 94; refine (web_ContainsFunc forks (by have := H8.out; have := HN.out; omega) Af cf _ (Kd.C_drewN (Kd.C_below HF.out HB1.out) _)).mono ?_; rw [any_len, HA.out]; rintro e w1 ⟨rfl, ⟨nd2, rfl⟩⟩))
   go_ret
   exact ⟨by rw [HE.out]; rfl, pw_below_drewN HB1.out _⟩
  | true =>
   rw [ha, Bool.true_and] at hres
   have HA := Aside0.mk ha
   have H3 := Aside0.mk (show ∀ f ∈ forks, f.length = 3 from fun f hf => eq_of_beq (List.all_eq_true.1 ha f hf))
   have HE := Aside0.mk hres
   clear hl hf h1 h2 hwf hN hI hres ha
   go_enter Try.func21, Try.ntmps21
   go_wp2_with (first
    | (go_at_call 93; refine (nodes_walk legs.length forks.length w.heap.size Al cl Af cf (by have := H8.out; have := HN.out; omega) _ HBK.out).mono ?_; rintro e w1 ⟨rfl, ⟨nd, rfl⟩⟩; rw [← HN.out])
    | (go_at_call 94; refine (web_ContainsFunc forks (by have := H8.out; have := HN.out; omega) Af cf _ (Kd.C_drewN (Kd.C_below HF.out HB1.out) _)).mono ?_; rw [any_len, HA.out]; rintro e w1 ⟨rfl, ⟨nd2, rfl⟩⟩)
    | (go_at_call 96; refine (stands_walk legs forks w.heap.size Al cl Af cf (by have := H8.out; have := HN.out; omega) H3.out HWF.out _ (blk_drewN HBK.out _) (Kd.C_drewN (Kd.C_below HL.out HB1.out) _) (Kd.C_drewN (Kd.C_below HF.out HB1.out) _)).mono ?_; rintro e w1 ⟨rfl, hgr1, hb1⟩; have hb2 := below_step (pw_below_drewN HB1.out _) hb1; generalize hM : (World.drewN _ _).heap.size = Bm at hgr1 ⊢; have HBM := Aside0.mk hM; have HGR := Aside0.mk hgr1; have HBB := Aside0.mk hb2; have hs1 := hb1.size; have HBS := Aside0.mk hb1; clear hgr1 hb1 hb2 hM hs1)
    | (at_range; refine wpList_range_own _ rfl _ 81 rfl 2 83 webKey Try.underlying81 _ _ (inc legs forks).length _ rfl (groups_own HGR.out) ?_; intro w2 hrg2 hg2 hs2)
    | go_in)
   go_frame
   rw [← HI.out] at hrg2
   have HRG2 := Aside0.mk hrg2
   have HG2 := Aside0.mk hg2
   have HL2 : Aside0 (∀ e, Maps.has (GTo I I.length) (keyL e) = ((!(ends I e).isEmpty) && !([] : List Int).contains e)) := ⟨fun e => by
    have h := GTo_has I e I.length (Nat.le_refl _)
    rw [List.take_length] at h
    rw [h]; simp⟩
   have HBK1 := Aside0.mk (blk_below (blk_drewN HBK.out _) HBS.out)
   have HLEN := Aside0.mk (show I.length ≤ 24 from by rw [HI.out, inc_len H3.out]; have := H8.out; have := HN.out; omega)
   clear hrg2 hg2 hs2
   go_loopw [3] (fun _ wr => ∃ (left : Lit → Bool) (cnt : Nat) (L : List Int), Aside0 (wr.ranges Try.prog 2 (rowElem (H := Unit) w1 (Bm + 1) 3 .i64) Bm w1.heap.size I.length (GTo I I.length) left cnt) ∧ Aside0 (∀ e, left (keyL e) = ((!(ends I e).isEmpty) && !L.contains e)) ∧ Aside0 (∀ e ∈ L, (0 ≤ e ∧ e ≤ 1000) ∧ (ends I e).length = 2) ∧ Aside0 (w1.grownBy wr none))
    (fun _ wr => wr.rangeLeft Bm w1.heap.size)
   case atStart => exact ⟨_, _, [], HRG2, HL2, ⟨by simp⟩, HG2⟩
   case round =>
    clear HRG2 HL2 HG2
    obtain ⟨left, cnt, L, HRG, HLE, HLI, HG⟩ := hrel
    go_wp2_with (first
     | (at_next; refine wpList_next_ranges (α := Int) (β := Value) _ rfl _ rfl 2 webKey (rowElem (H := Unit) w1 (Bm + 1) 3 .i64) (Value.int .i64) id (fun key kl h => inv_key h) (fun v y _ => ⟨v, rfl⟩) Bm w1.heap.size I.length (GTo I I.length) left cnt rfl HRG.out ?_ ?_)
     | go_in)
    ·intro hc0 hl0
     have htw : twiceB legs forks = true := by
      unfold twiceB
      rw [← HI.out, List.all_eq_true]
      intro p hp
      have h := HLE.out p.1
      rw [hl0] at h
      have hu := mem_ends.2 (show (p.1, p.2) ∈ I from hp)
      have hc : L.contains p.1 = true := by
       cases hc : L.contains p.1 with
       | true => rfl
       | false =>
        rw [hc] at h
        cases hh : ends I p.1 with
        | nil => rw [hh] at hu; exact absurd hu (by simp)
        | cons _ _ => rw [hh] at h; simp at h
      have := HLI.out p.1 (List.contains_iff_mem.1 hc)
      rw [decide_eq_true this.1, this.2]; rfl
     have hb := below_step HBB.out (grown_below HG.out)
     have hres : res = rootedB legs forks := by rw [HE.out, htw, Bool.true_and]
     have HRS := Aside0.mk hres
     have HTW := Aside0.mk (twice_two htw)
     have HBR := Aside0.mk hb
     have HBKR := Aside0.mk (blk_grown HBK1.out HG.out (by simp))
     have hmf : ∀ (fn : Fn) (first cap : Array Value) (w : World), (Instr.makeFunc fn first cap).run Try.prog w = .ok (.func fn first cap) w := fun _ _ _ _ => rfl
     clear htw hb hres hl0 hc0
     go_wp2_with (first
      | (go_at_call 99; refine (partsOf_walk legs forks N w.heap.size Al cl Af cf HN.out H8.out H3.out HWF.out (by rw [HN.out]; exact HTW.out) _ HBKR.out (Kd.C_below HL.out HBR.out) (Kd.C_below HF.out HBR.out)).mono ?_; rintro e w5 ⟨v5, rfl, ho5, hb5⟩; obtain ⟨A5, c5, rfl, hl5, hC5⟩ := Kd.R_reads ho5; have HC5 := Aside0.mk hC5; have HB5 := Aside0.mk hb5; have HBK5 := Aside0.mk (blk_below HBKR.out hb5); clear ho5 hb5 hl5 hC5)
      | (go_at_call 98; refine (web_ContainsFunc2 ((List.range N).map (lbl (inc legs forks))) (by have := H8.out; simp; omega) A5 c5 legs.length w.heap.size Al cl _ HC5.out ((blk_cell HBK5.out 0).trans rfl)).mono ?_; rw [any_root]; rintro e w6 ⟨rfl, ⟨nd6, rfl⟩⟩))
     go_ret
     refine ⟨?_, pw_below_drewN (below_step HBR.out HB5.out) _⟩
     rw [HRS.out, rootedB, ← HN.out]
     first | rfl | simp
    ·intro x c kl d ps w3 cnt3 hkey hlk hR hat hrg3 hlt3 hg3 hs3 hen
     obtain ⟨rfl, hown, hne⟩ := come_of hkey hR hat
     obtain ⟨u, hu⟩ := List.exists_mem_of_ne_nil _ hne
     obtain ⟨A4, c4, rfl⟩ := Kd.R_slice (R_of_own hown.1)
     rw [ints_len] at hen
     obtain ⟨ln, hln⟩ : ∃ ln, ln = (ends I x).length := ⟨_, rfl⟩
     rw [← hln] at hen
     simp only [ints_len, ← hln]
     have HLN := Aside0.mk hln
     have HU := Aside0.mk (mem_ends.1 hu)
     have HLK := Aside0.mk hlk
     have HLT3 := Aside0.mk hlt3
     have HRG3 := Aside0.mk hrg3
     have HG3 := Aside0.mk (HG.out.andThen hg3 (fun j hj => by cases hj; exact Or.inl (Nat.le_refl _)) : w1.grownBy w3 none)
     have HIN := Aside0.mk (in_f x 0 1000)
     clear hln hu hne hown hR hat hkey hlk hlt3 hrg3 hg3 hs3
     have hbad : ¬ ((0 ≤ x ∧ x ≤ 1000) ∧ ln = 2) → res = false := by
      intro hb
      rw [HE.out]
      have : twiceB legs forks = false := by
       cases htw : twiceB legs forks with
       | false => rfl
       | true =>
        exfalso
        unfold twiceB at htw
        rw [← HI.out] at htw
        have := List.all_eq_true.1 htw _ HU.out
        simp only [Bool.and_eq_true, decide_eq_true_eq, beq_iff_eq] at this
        exact hb ⟨this.1, by rw [HLN.out]; exact this.2⟩
      rw [this]; rfl
     have HBAD := Aside0.mk hbad
     clear hbad
     have hbel := Aside0.mk (below_step HBB.out (grown_below HG3.out))
     cases hin : decide (0 ≤ x ∧ x ≤ 1000) with
     | false =>
      have HE2 := Aside0.mk (HBAD.out (fun h => by rw [decide_eq_true h.1] at hin; exact absurd hin (by simp)))
      have HIN2 := Aside0.mk (HIN.out.trans (congrArg some hin))
      clear hin
      go_wp2_with (first
       | (go_at_call 97; refine (impl_in.calls x 0 1000 false _ HIN2.out).mono ?_; rintro e w4 ⟨rfl, ⟨⟨nd4, rfl⟩⟩⟩))
      go_ret
      exact ⟨by rw [HE2.out]; rfl, pw_below_drewN hbel.out _⟩
     | true =>
      have HIN2 := Aside0.mk (HIN.out.trans (congrArg some hin))
      have HIX := Aside0.mk (of_decide_eq_true hin)
      clear hin
      by_cases h2 : ln = 2
      ·have t3 : ((ln : Int) == 2) = true := by simp; omega
       have H22 := Aside0.mk h2
       clear h2
       go_wp2_with (first
        | (go_at_call 97; refine (impl_in.calls x 0 1000 true _ HIN2.out).mono ?_; rintro e w4 ⟨rfl, ⟨⟨nd4, rfl⟩⟩⟩))
       go_roundw
       case rel =>
        refine ⟨_, cnt3, L ++ [x], ⟨HRG3.out.kept (grown_drewN (grown_refl _ none) _) (by simp) (by simp)⟩, ⟨fun e => ?_⟩, ⟨fun e he => ?_⟩, ⟨grown_drewN HG3.out _⟩⟩
        ·show (left (keyL e) && !(keyL e).sameKey (keyL x)) = _
         rw [HLE.out e, same_keyL]
         exact left_step _ _ _ _
        ·rcases List.mem_append.1 he with q | q
         ·exact HLI.out e q
         ·rw [List.mem_singleton] at q; rw [q]; exact ⟨HIX.out, by rw [← HLN.out]; exact H22.out⟩
       case measure =>
        have h1 := HRG3.out.left_eq
        have h2 := HRG.out.left_eq
        have h3 := HLT3.out
        show World.rangeLeft w3 Bm w1.heap.size < _
        rw [h1, h2]; exact h3
      ·have t3 : ((ln : Int) == 2) = false := by simp; omega
       have HE2 := Aside0.mk (HBAD.out (fun h => h2 h.2))
       clear h2
       go_wp2_with (first
        | (go_at_call 97; refine (impl_in.calls x 0 1000 true _ HIN2.out).mono ?_; rintro e w4 ⟨rfl, ⟨⟨nd4, rfl⟩⟩⟩))
       go_ret
       exact ⟨by rw [HE2.out]; rfl, pw_below_drewN hbel.out _⟩
theorem impl_IsWeb.calls (A0_0 : Option Addr) (c0_0 : Nat) (l0_0 : List Int) (A0_1 : Option Addr) (c0_1 : Nat) (l0_1 : List (List Int)) (r : Bool) (w : World) (hr0_0 : Kd.C (Kd.int .i64) w A0_0 l0_0.length l0_0) (hc0_0 : l0_0.length ≤ c0_0) (hr0_1 : Kd.C (Kd.slice 2 (Kd.int .i64)) w A0_1 l0_1.length l0_1) (hc0_1 : l0_1.length ≤ c0_1) (h : impl_IsWeb.f l0_0 l0_1 = some r) :
  Calls Try.prog 21 #[.agg #[.slice A0_0 l0_0.length c0_0, .slice A0_1 l0_1.length c0_1]] w fun e w' => e = .returned (.bool r) ∧ Below w.heap.size w w' := by
 unfold impl_IsWeb.f at h
 by_cases hk : l0_0.length ≤ 17592186044416 ∧ l0_1.length ≤ 17592186044416 ∧ wfW l0_0 l0_1 = true
 ·rw [if_pos hk] at h
  obtain rfl := Option.some.inj h
  rw [isWebC_eq]
  exact isWeb_walk l0_0 l0_1 A0_0 c0_0 A0_1 c0_1 hk.1 hk.2.1 (fun p hp => List.all_eq_true.1 hk.2.2 p hp) w hr0_0 hr0_1
 ·rw [if_neg hk] at h; exact absurd h (by simp)

end
end Go.Proofs.Ytnlhhbnoccobmaa.F
