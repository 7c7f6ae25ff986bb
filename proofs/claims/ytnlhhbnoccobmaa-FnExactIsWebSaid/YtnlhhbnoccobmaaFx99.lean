/- What impl_Web_partsOf answers, and that the Go text comes to it: for every world in which the arguments read as told. -/
import Derived.Test.YtnlhhbnoccobmaaFgA
import Derived.Test.YtnlhhbnoccobmaaFx96
import Derived.Test.YtnlhhbnoccobmaaPureWebMap
import Derived.Test.YtnlhhbnoccobmaaPureMem
import Derived.Test.YtnlhhbnoccobmaaPureRows
import Derived.Maps.RangeWalk
import Derived.Maps.GroupsBeside
import Derived.Deep.RegionLaw
import Derived.WalkSpells
import Derived.BigQuiet
namespace Go.Proofs.Ytnlhhbnoccobmaa.F
open Go.RowKit Go.Proofs.YtnlhhbnoccobmaaW.PrintWords Go.Proofs.YtnlhhbnoccobmaaW.PrintLast Go.Proofs.YtnlhhbnoccobmaaW.PrintMore
attribute [local go_sem] max2_int min2_int max_two min_two max_three min_three max_four min_four   -- for this text's walks alone
set_option linter.unusedVariables false
set_option linter.unusedSimpArgs false

/-! ### impl_Web_partsOf: function 99 (by hand) -/
open Go.Proofs.Ytnlhhbnoccobmaa.Mem Go.Proofs.Ytnlhhbnoccobmaa.Web Go.Maps
set_option maxHeartbeats 2000000 in
set_option maxRecDepth 100000 in
theorem nodes_walk (nl nf : Nat) (Bw : Nat) (Al : Option Addr) (cl : Nat) (Af : Option Addr) (cf : Nat) (h8 : nl + nf ≤ 4611686018427387904) (w : World) (hb : w.heap[Bw]? = some (.cells #[.slice Al nl cl, .slice Af nf cf] 28 (0, 0))) :
  Calls Try.prog 93 #[.pointer (some ⟨Bw, 0, none⟩)] w fun e w' => e = .returned (.int .i64 ((nl + nf : Nat) : Int)) ∧ ∃ nd, w' = w.drewN nd := by
 have c0 : w.cell? ⟨Bw, 0, none⟩ = some (.slice Al nl cl) := (blk_cell hb 0).trans rfl
 have c1 : w.cell? ⟨Bw, 1, none⟩ = some (.slice Af nf cf) := (blk_cell hb 1).trans rfl
 have hu : IntKind.i64.wrap ((nl : Int) + (nf : Int)) = ((nl + nf : Nat) : Int) := by rw [i64_w]; unfold wrap64; omega
 clear hb
 go_enter Try.func93, Try.ntmps93
 go_wp2
 go_quiet (fail)
 go_wp2
 go_ret
 exact ⟨by first | rfl | (rw [hu]), _, rfl⟩
/-- The numbers from 0 on as far as one of them, and noughts behind them. -/
def upTo (n i : Nat) : List Int := (List.range n).map fun a => if a < i then (a : Int) else 0
theorem upTo_zero (n : Nat) : upTo n 0 = List.replicate n 0 := by
 unfold upTo
 rw [List.map_congr_left (g := fun _ => (0 : Int)) (fun a _ => if_neg (Nat.not_lt_zero _)), List.map_const']; simp
theorem upTo_succ (n i : Nat) (h : i < n) : (upTo n i).set i (i : Int) = upTo n (i + 1) := by
 apply List.ext_getElem
 ·simp [upTo]
 ·intro j h1 h2
  have hj : j < n := by simpa [upTo] using h2
  simp only [upTo, List.getElem_set, List.getElem_map, List.getElem_range]
  by_cases e : i = j
  ·subst e; rw [if_pos rfl, if_pos (by omega)]
  ·rw [if_neg e]
   by_cases g : j < i
   ·rw [if_pos g, if_pos (by omega)]
   ·rw [if_neg g, if_neg (by omega)]
theorem upTo_full (n : Nat) : upTo n n = ints (List.range n) := by
 unfold upTo ints
 exact List.map_congr_left fun a ha => if_pos (List.mem_range.1 ha)
theorem upTo_len (n i : Nat) : (upTo n i).length = n := by simp [upTo]
theorem groups_own {H : Type} {P : Program} {k : TypeId} {w : World} {base : Nat} {e : TypeId} {q : IntKind} {b n : Nat} {D : DataW H} (h : w.ownsGroups P k base e q b n D) : w.ownsMap P k (rowElem w base e q) b n D := by
 obtain ⟨es, clock, hb, F, hs, hD, _⟩ := h
 exact ⟨es, clock, hb, F, hs, hD⟩
/-- A slice that owns two numbers, cell by cell. -/
theorem own_two {w : World} {base : Nat} {e : TypeId} {v : Value} {x y : Int} (h : w.ownsInts base e .i64 v [x, y]) : ∃ g cap, v = .slice (some ⟨g, 0, none⟩) 2 cap ∧ base ≤ g ∧ g < w.heap.size ∧ w.cell? ⟨g, 0, none⟩ = some (.int .i64 x) ∧ w.cell? ⟨g, 1, none⟩ = some (.int .i64 y) := by
 have hR : Kd.R (Kd.int .i64) e w base (fun k => base ≤ k) v [x, y] := R_of_own h.1
 obtain ⟨A, c, rfl, hc, hC⟩ := Kd.R_reads hR
 obtain ⟨ad, rfl, h0⟩ := cell_of_C hC 0 (by show 0 < 2; omega)
 obtain ⟨ad', he, h1⟩ := cell_of_C hC 1 (by show 1 < 2; omega)
 obtain rfl := Option.some.inj he
 obtain ⟨g, rfl⟩ := Kd.R_head hR
 rw [add_plain] at h0 h1
 exact ⟨g, c, rfl, Kd.R_base hR g (by simp [Value.ownBlock]), Kd.R_lt hR g (by simp [Value.ownBlock]), h0, h1⟩
theorem inv_key {key : Value} {kl : Lit} (h : keyOf Try.prog 2 key = some kl) : ∃ x, key = Value.int .i64 x := by
 obtain ⟨x, hx, _⟩ := keyOf_int_inv Try.underlying2 h
 exact ⟨x, hx⟩
/-- What came out of a map that was filled so: an edge and where it stands. -/
theorem come_of {w1 : World} {base : Nat} {I : List (Int × Nat)} {x : Int} {c : Value} {kl : Lit} {y : DataW Unit × List MemPlace} (hkey : keyOf Try.prog 2 (.int .i64 x) = some kl) (hR : rowElem w1 base 3 .i64 c = some y) (hat : ∀ zd, (GTo I I.length).atKey kl zd = y.1) :
  kl = keyL x ∧ w1.ownsInts base 3 .i64 c (ints (ends I x)) ∧ ends I x ≠ [] := by
 obtain ⟨x', hx, rfl, _⟩ := keyOf_int_inv Try.underlying2 hkey
 injection hx with _ hx
 subst hx
 obtain ⟨zs, ho, rfl⟩ := rowElem_inv hR
 have hz := GTo_zs (I := I) (p := I.length) (e := x) (Nat.le_refl _) ho (hat .nil)
 rw [List.take_length] at hz
 refine ⟨rfl, by rw [← hz]; exact ho, fun h0 => ?_⟩
 have h1 := hat .nil
 have h2 := hat (.lit (.bool true))
 have g1 := GTo_at I x .nil I.length (Nat.le_refl _)
 have g2 := GTo_at I x (.lit (.bool true)) I.length (Nat.le_refl _)
 rw [List.take_length, if_pos h0] at g1 g2
 have : (DataW.nil : DataW Unit) = .lit (.bool true) := g1.symm.trans (h1.trans (h2.symm.trans g2))
 cases this
theorem mnN (a b : Nat) : mn (a : Int) (b : Int) = ((min a b : Nat) : Int) := by unfold mn; omega
theorem same_keyL (e x : Int) : (keyL e).sameKey (keyL x) = (e == x) := by
 unfold keyL Lit.sameKey
 rw [Bool.eq_iff_iff]; simp
theorem ints_put (l : List Nat) (i x : Nat) : (ints l).set i (x : Int) = ints (l.set i x) := by unfold ints; rw [List.map_set]
theorem left_step (p : Bool) (L : List Int) (e x : Int) : (((!p) && !L.contains e) && !(e == x)) = ((!p) && !(L ++ [x]).contains e) := by
 have h : (L ++ [x]).contains e = (L.contains e || e == x) := by
  rw [Bool.eq_iff_iff, List.contains_iff_mem, Bool.or_eq_true, List.contains_iff_mem, List.mem_append, List.mem_singleton, beq_iff_eq]
 rw [h]
 cases p <;> cases L.contains e <;> cases (e == x) <;> rfl
theorem made_intsW (m : Nat) : madeCells (Value.cells (.int .i64 0)) m = (nums .i64 (List.replicate m 0)).toArray := made_nums m
set_option maxHeartbeats 4000000 in
set_option maxRecDepth 100000 in
theorem partsOf_walk (legs : List Int) (forks : List (List Int)) (n Bw : Nat) (Al : Option Addr) (cl : Nat) (Af : Option Addr) (cf : Nat) (hn : n = legs.length + forks.length) (h8 : n ≤ 8) (h3 : ∀ f ∈ forks, f.length = 3) (hwf : ∀ p ∈ inc legs forks, (Lit.int .i64 p.1).wf = true) (h2 : Two (inc legs forks) n) (w : World)
  (hb : w.heap[Bw]? = some (.cells #[.slice Al legs.length cl, .slice Af forks.length cf] 28 (0, 0))) (hl : Kd.C (Kd.int .i64) w Al legs.length legs) (hf : Kd.C (Kd.slice 2 (Kd.int .i64)) w Af forks.length forks) :
  Calls Try.prog 99 #[.pointer (some ⟨Bw, 0, none⟩)] w fun e w' => ∃ v0_ : Value, e = .returned v0_ ∧ Kd.R (Kd.int .i64) 3 w' w.heap.size (fun _ => True) v0_ (ints ((List.range n).map (lbl (inc legs forks)))) ∧ Below w.heap.size w w' := by
 have hmk := make_ints (P := Try.prog) Try.underlying83 info_webint (n : Int) n rfl (by omega)
 have HN := Aside0.mk hn
 have H8 := Aside0.mk h8
 have H3 := Aside0.mk h3
 have HWF := Aside0.mk hwf
 have H2 := Aside0.mk h2
 have HBK := Aside0.mk hb
 have HL := Aside0.mk hl
 have HF := Aside0.mk hf
 obtain ⟨Bo, hBo⟩ : ∃ Bo, Bo = w.heap.size := ⟨_, rfl⟩
 have HBO := Aside0.mk hBo
 clear hn h3 hwf h2 hb hl hf
 go_enter Try.func99, Try.ntmps99
 go_wp2_with (first
  | (go_at_call 93; refine (nodes_walk legs.length forks.length Bw Al cl Af cf (by have := HN.out; have := H8.out; omega) _ HBK.out).mono ?_; rintro e w1 ⟨rfl, ⟨nd, rfl⟩⟩; rw [← HN.out]))
 rw [← hBo]
 have HH0 : Aside0 (((w.drewN nd).alloc (.cells (nums .i64 (List.replicate n 0)).toArray 3)).heap[Bo]? = some (.cells (nums .i64 (upTo n 0)).toArray 3 (0, 0))) := ⟨by rw [upTo_zero]; exact new_at hBo⟩
 have HB0 : Aside0 (Below w.heap.size w ((w.drewN nd).alloc (.cells (nums .i64 (List.replicate n 0)).toArray 3))) := ⟨below_alloc (pw_below_drewN (Below.refl _ _) _) _⟩
 clear hBo hmk
 go_loopw [13] (fun s13 wr => ∃ i : Nat, s13 = .int .i64 (i : Int) ∧ Aside0 (i ≤ n) ∧ Aside0 (wr.heap[Bo]? = some (.cells (nums .i64 (upTo n i)).toArray 3 (0, 0))) ∧ Aside0 (Below w.heap.size w wr))
  (fun s13 _ => n - (intOf s13).toNat)
 case atStart => exact ⟨0, rfl, ⟨Nat.zero_le _⟩, HH0, HB0⟩
 case round =>
  clear HH0 HB0
  obtain ⟨i, rfl, HI, HH, HB⟩ := hrel
  by_cases hi : i < n
  ·have t1 : decide ((i : Int) < (n : Int)) = true := decide_eq_true (by omega)
   have t2 : decide (i < n) = true := decide_eq_true hi
   have hx := (blk_cell HH.out i).trans (nums_get _ i (by rw [upTo_len]; exact hi))
   have hfz := blk_frozen HH.out i
   go_wp2_with fail
   go_roundw
   case rel => exact ⟨i + 1, (by first | rfl | exact congrArg _ (wS (by omega))), ⟨by omega⟩, ⟨by rw [← upTo_succ n i hi, ← nums_set]; exact blk_set HH.out _ _⟩, ⟨below_grown HB.out (grown_set (grown_refl _ _) i _) (by have := HBO.out; omega)⟩⟩
   case measure => (try rw [wS (by omega)]); simp [intOf]; omega
  ·have t1 : decide ((i : Int) < (n : Int)) = false := decide_eq_false (by omega)
   have t2 : decide (i < n) = false := decide_eq_false hi
   have hin : i = n := by have := HI.out; omega
   subst hin
   clear hi
   have HH1 : Aside0 (wr.heap[Bo]? = some (.cells (nums .i64 (ints (List.range i))).toArray 3 (0, 0))) := ⟨by rw [← upTo_full]; exact HH.out⟩
   go_wp2_with fail
   clear HH
   go_loopw [23] (fun s23 wr => ∃ (t : Nat) (out : List Nat), s23 = .int .i64 (t : Int) ∧ Aside0 (t ≤ i) ∧ Aside0 (Rounds (inc legs forks) i t out) ∧ Aside0 (wr.heap[Bo]? = some (.cells (nums .i64 (ints out)).toArray 3 (0, 0))) ∧ Aside0 (Below w.heap.size w wr))
    (fun s23 _ => i - (intOf s23).toNat)
   case atStart => exact ⟨0, _, rfl, ⟨Nat.zero_le _⟩, ⟨.zero⟩, HH1, HB⟩
   case round =>
    clear HH1 HB
    obtain ⟨t, out, rfl, HT, HRO, HH, HB⟩ := hrel
    by_cases ht : t < i
    ·have t3 : decide ((t : Int) < (i : Int)) = true := decide_eq_true (by omega)
     have t4 : decide (t < i) = true := decide_eq_true ht
     have HTI := Aside0.mk ht
     obtain ⟨wo, hwo⟩ : ∃ wo, wo = wr := ⟨wr, rfl⟩
     subst hwo
     go_wp2_with (first
      | (go_at_call 96; refine (stands_walk legs forks Bw Al cl Af cf (by have := HN.out; have := H8.out; omega) H3.out HWF.out wo (blk_below HBK.out HB.out) (Kd.C_below HL.out HB.out) (Kd.C_below HF.out HB.out)).mono ?_; rintro e w1 ⟨rfl, hgr1, hb1⟩; have HGR := Aside0.mk hgr1; have HB1 := Aside0.mk hb1; clear hgr1 hb1)
      | (at_range; refine wpList_range_own _ rfl _ 81 rfl 2 83 webKey Try.underlying81 _ wo.heap.size (inc legs forks).length _ rfl (groups_own HGR.out) ?_; intro w2 hrg2 hg2 hs2)
      | go_in)
     go_frame
     obtain ⟨I, hI⟩ : ∃ I, I = inc legs forks := ⟨_, rfl⟩
     rw [← hI] at hrg2
     have HII := Aside0.mk hI
     have HH2 : Aside0 (w2.heap[Bo]? = some (.cells (nums .i64 (ints (([] : List Int).foldl (relax I) out))).toArray 3 (0, 0))) := ⟨blk_grown (blk_below HH.out HB1.out) hg2 (by simp)⟩
     have HRG2 := Aside0.mk hrg2
     have HL2 : Aside0 (∀ e, Maps.has (GTo I I.length) (keyL e) = ((!(ends I e).isEmpty) && !([] : List Int).contains e)) := ⟨fun e => by
      have h := GTo_has I e I.length (Nat.le_refl _)
      rw [List.take_length] at h
      rw [h]; simp⟩
     have HG2 := Aside0.mk (grown_of_none hg2 (some Bo))
     have HBW := Aside0.mk (blk_lt HH.out)
     clear hI hrg2 hg2 hs2
     go_loopw [6] (fun _ wr => ∃ (left : Lit → Bool) (cnt : Nat) (L : List Int), Aside0 (wr.ranges Try.prog 2 (rowElem (H := Unit) w1 (wo.heap.size + 1) 3 .i64) wo.heap.size w1.heap.size I.length (GTo I I.length) left cnt) ∧ Aside0 (∀ e, left (keyL e) = ((!(ends I e).isEmpty) && !L.contains e)) ∧ Aside0 (∀ e ∈ L, ∃ u, (e, u) ∈ I) ∧ Aside0 (wr.heap[Bo]? = some (.cells (nums .i64 (ints (L.foldl (relax I) out))).toArray 3 (0, 0))) ∧ Aside0 (w1.grownBy wr (some Bo)))
      (fun _ wr => wr.rangeLeft wo.heap.size w1.heap.size)
     case atStart => exact ⟨_, _, [], by rw [HII.out]; rw [HII.out] at HRG2; exact HRG2, HL2, ⟨by simp⟩, HH2, HG2⟩
     case round =>
      clear HH2 HRG2 HL2 HG2
      obtain ⟨left, cnt, L, HRG, HLE, HLI, HHO, HG⟩ := hrel
      have h2 := H2.out
      rw [← HII.out] at h2
      have hro := HRO.out
      rw [← HII.out] at hro
      have hfit := (fold_keep h2 L out HLI.out (rounds_fits h2 hro)).1
      have HFIT := Aside0.mk hfit
      clear hro
      go_wp2_with (first
       | (at_next; refine wpList_next_ranges (α := Int) (β := Value) _ rfl _ rfl 2 webKey (rowElem (H := Unit) w1 (wo.heap.size + 1) 3 .i64) (Value.int .i64) id (fun key kl h => inv_key h) (fun v y _ => ⟨v, rfl⟩) wo.heap.size w1.heap.size I.length (GTo I I.length) left cnt rfl HRG.out ?_ ?_)
       | go_in)
      ·intro hc0 hl0
       have hround : Round I out (L.foldl (relax I) out) := by
        refine ⟨L, fun e => ⟨HLI.out e, fun ⟨u, hu⟩ => ?_⟩, rfl⟩
        have h := HLE.out e
        rw [hl0] at h
        have hne : ends I e ≠ [] := fun h0 => by have := mem_ends.2 hu; rw [h0] at this; exact absurd this (by simp)
        cases hc : L.contains e with
        | true => exact List.contains_iff_mem.1 hc
        | false =>
         rw [hc] at h
         cases hh : ends I e with
         | nil => exact absurd hh hne
         | cons _ _ => rw [hh] at h; simp at h
       have HROU := Aside0.mk hround
       clear hround
       go_wp2
       go_roundw
       case rel => exact ⟨t + 1, L.foldl (relax I) out, (by first | rfl | exact congrArg _ (wS (by omega))), ⟨HTI.out⟩, ⟨.succ HRO.out (by rw [← HII.out]; exact HROU.out)⟩, HHO, ⟨below_grown (below_step HB.out HB1.out) HG.out (by have := HBO.out; omega)⟩⟩
       case measure => (try rw [wS (by omega)]); simp [intOf]; omega
      ·intro x c kl d ps w3 cnt3 hkey hlk hR hat hrg3 hlt3 hg3 hs3 hen
       obtain ⟨rfl, hown, hne⟩ := come_of hkey hR hat
       have hlx := HLE.out x
       rw [hlk] at hlx
       obtain ⟨u, hu⟩ := List.exists_mem_of_ne_nil _ hne
       obtain ⟨a, b, hab, ha, hb, hj, _⟩ := h2.at_ (mem_ends.1 hu)
       rw [hab] at hown
       obtain ⟨g, cap, rfl, hg1, hg2, hc0, hc1⟩ := own_two hown
       obtain ⟨O, hO⟩ : ∃ O, O = L.foldl (relax I) out := ⟨_, rfl⟩
       have hho := HHO.out
       have hf := HFIT.out
       rw [← hO] at hho hf
       have hol := hf.len
       have hoi : (ints O).length = O.length := ints_len O
       have HOE := Aside0.mk hO
       have hBog : Bo ≠ g := by have := HBW.out; omega
       have hgr : g ≠ w1.heap.size := by omega
       have hBor : Bo ≠ w1.heap.size := by have := HBW.out; have := HB1.out.size; omega
       have hBom : Bo ≠ wo.heap.size := by have := HBW.out; omega
       have hk0 := hg3.cell (HG.out.cell hc0 (by simp; exact Ne.symm hBog)) (by simp; exact hgr)
       have hk1 := hg3.cell (HG.out.cell hc1 (by simp; exact Ne.symm hBog)) (by simp; exact hgr)
       have hh3 := blk_grown hho hg3 (by simp; exact hBor)
       have hxa := (blk_cell hh3 a).trans (nums_get _ a (by omega))
       have hxb := (blk_cell hh3 b).trans (nums_get _ b (by omega))
       rw [ints_getD O a (by omega)] at hxa
       rw [ints_getD O b (by omega)] at hxb
       obtain ⟨lo, hlo⟩ : ∃ lo, lo = low2 O a b := ⟨_, rfl⟩
       obtain ⟨va, hva⟩ : ∃ va, va = O.getD a 0 := ⟨_, rfl⟩
       obtain ⟨vb, hvb⟩ : ∃ vb, vb = O.getD b 0 := ⟨_, rfl⟩
       rw [← hva] at hxa
       rw [← hvb] at hxb
       have hmn : (if vb < va then (vb : Int) else (va : Int)) = (lo : Int) := by
        rw [hlo, low2]
        show _ = ((min (O.getD a 0) (O.getD b 0) : Nat) : Int)
        rw [← hva, ← hvb]
        split <;> omega
       have HLO := Aside0.mk hlo
       have HH3 := Aside0.mk hh3
       have HFO := Aside0.mk hf
       have HOI := Aside0.mk hoi
       have HRG3 := Aside0.mk hrg3
       have HG3 := Aside0.mk (HG.out.andThen hg3 (fun j hj => by cases hj; exact Or.inl (Nat.le_refl _)))
       have HAB := Aside0.mk hab
       have HJ := Aside0.mk hj
       have HLK := Aside0.mk hlk
       have HLT3 := Aside0.mk hlt3
       have HBOM := Aside0.mk hBom
       have HBOR := Aside0.mk hBor
       have HBOG := Aside0.mk hBog
       have HU := Aside0.mk (mem_ends.1 hu)
       clear hva hvb hO hlo hlx hlk hkey hR hat hne hu hown hg3 hs3 hf hol hoi hho hh3 hrg3 hlt3 hfit h2 hc0 hc1 hBog hgr hBor hBom hab hj hg1 hg2
       go_wp2_with fail
       go_quiet (fail)
       (try simp only [hmn])
       clear hmn
       obtain ⟨w4, hw4⟩ : ∃ w4, w4 = w3.drewN nq := ⟨_, rfl⟩
       rw [← hw4]
       have HH4 : Aside0 (w4.heap[Bo]? = some (.cells (nums .i64 (ints O)).toArray 3 (0, 0))) := ⟨by rw [hw4]; exact HH3.out⟩
       have HW4 := Aside0.mk hw4
       have hk0 : w4.cell? ⟨g, 0, none⟩ = some (.int .i64 (a : Int)) := by rw [hw4]; exact hk0
       have hk1 : w4.cell? ⟨g, 1, none⟩ = some (.int .i64 (b : Int)) := by rw [hw4]; exact hk1
       have hxa : w4.cell? ⟨Bo, a, none⟩ = some (.int .i64 (va : Int)) := by rw [hw4]; exact hxa
       have hfa := blk_frozen HH4.out a
       have hb4 := blk_set HH4.out a (.int .i64 (lo : Int))
       rw [nums_set] at hb4
       have hxb4 := (blk_cell hb4 b).trans (nums_get _ b (by rw [List.length_set, HOI.out, HFO.out.len]; exact hb))
       have hfb := blk_frozen hb4 b
       have HB4 := Aside0.mk hb4
       clear hw4 hb4
       go_wp2_with fail
       go_region
       all_goals
        have HG5 : Aside0 (w3.grownBy ((w4.setCell ⟨Bo, a, none⟩ (.int .i64 (lo : Int))).setCell ⟨Bo, b, none⟩ (.int .i64 (lo : Int))).drew (some Bo)) := ⟨grown_drew (grown_set (grown_set (by rw [HW4.out]; exact grown_drewN (grown_refl _ _) _) _ _) _ _)⟩
        have HR5 := Aside0.mk (HRG3.out.kept HG5.out (by simp; exact Ne.symm HBOM.out) (by simp; exact Ne.symm HBOR.out))
        have HH5 : Aside0 (((w4.setCell ⟨Bo, a, none⟩ (.int .i64 (lo : Int))).setCell ⟨Bo, b, none⟩ (.int .i64 (lo : Int))).drew.heap[Bo]? = some (.cells (nums .i64 (ints ((L ++ [x]).foldl (relax I) out))).toArray 3 (0, 0))) := ⟨by
         have e : (L ++ [x]).foldl (relax I) out = relax2 O a b := by
          rw [List.foldl_append, ← HOE.out]
          show relax I O x = _
          unfold relax; rw [HAB.out]; rfl
         have h := blk_drew (blk_set HB4.out b (.int .i64 (lo : Int)))
         rw [nums_set, ints_put, ints_put, HLO.out] at h
         rw [e, HLO.out]
         exact h⟩
        go_wp2_with fail
        go_roundw
        case rel =>
         refine ⟨_, cnt3, L ++ [x], HR5, ⟨fun e => ?_⟩, ⟨fun e he => ?_⟩, HH5, ⟨grown_trans HG3.out HG5.out⟩⟩
         ·show (left (keyL e) && !(keyL e).sameKey (keyL x)) = _
          rw [HLE.out e, same_keyL]
          exact left_step _ _ _ _
         ·rcases List.mem_append.1 he with q | q
          ·exact HLI.out e q
          ·rw [List.mem_singleton] at q; rw [q]; exact ⟨_, HU.out⟩
        case measure => rw [HR5.out.left_eq, HRG.out.left_eq]; exact HLT3.out
    ·have t3 : decide ((t : Int) < (i : Int)) = false := decide_eq_false (by omega)
     have t4 : decide (t < i) = false := decide_eq_false ht
     have hti : t = i := by have := HT.out; omega
     subst hti
     clear ht
     go_wp2_with fail
     go_ret
     refine ⟨_, rfl, ?_, HB.out⟩
     have e := rounds_lbl H2.out HRO.out
     have hl : (ints out).length = t := by rw [e, ints_len]; simp
     rw [← e]
     exact R_of_block HH.out hl (by have := H8.out; unfold maxLen; omega) (by have := HBO.out; omega)

end Go.Proofs.Ytnlhhbnoccobmaa.F
