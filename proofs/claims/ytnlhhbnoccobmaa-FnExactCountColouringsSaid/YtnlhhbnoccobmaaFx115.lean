/- What spec_l10Polynomial answers, and that the Go text comes to it: for every world in which the arguments read as told. -/
import Derived.Test.YtnlhhbnoccobmaaFgA
import Derived.Test.YtnlhhbnoccobmaaFx172
import Derived.Test.YtnlhhbnoccobmaaPureMat
import Derived.Test.YtnlhhbnoccobmaaPureMem
import Derived.Test.YtnlhhbnoccobmaaPureRows
import Derived.Test.YtnlhhbnoccobmaaPureBits
import Derived.Test.YtnlhhbnoccobmaaPureE
import Derived.WalkSpells
import Derived.BigQuiet
import Derived.Test.YtnlhhbnoccobmaaWFootNe
import Derived.Deep.RegionWith
import Derived.Deep.RegionHeld3
namespace Go.Proofs.Ytnlhhbnoccobmaa.F
open Go.RowKit Go.Proofs.YtnlhhbnoccobmaaW.PrintWords Go.Proofs.YtnlhhbnoccobmaaW.PrintLast Go.Proofs.YtnlhhbnoccobmaaW.PrintMore
attribute [local go_sem] max2_int min2_int max_two min_two max_three min_three max_four min_four   -- for this text's walks alone
set_option linter.unusedVariables false
set_option linter.unusedSimpArgs false

/-! ### spec_l10Polynomial: function 115 (by hand) -/
open Go.Proofs.Ytnlhhbnoccobmaa.Pure Go.Proofs.Ytnlhhbnoccobmaa.Mem Go.Proofs.Ytnlhhbnoccobmaa.Chrom
/-- Rows that lie in blocks of their own, read through a block of slices. -/
theorem C_rows {e n B t t' : Nat} {w : World} {rows : List (List Int)} (R : Nat → Nat) (hb : w.heap[B]? = some (.cells ((List.range rows.length).map fun a => Value.slice (some ⟨R a, 0, none⟩) n n).toArray t (0, 0))) (hn : n ≤ maxLen) (hl : rows.length ≤ maxLen)
  (hr : ∀ a, a < rows.length → (rows.getD a []).length = n ∧ w.heap[R a]? = some (.cells (nums .i64 (rows.getD a [])).toArray t' (0, 0))) : Kd.C (Kd.slice e (Kd.int .i64)) w (some ⟨B, 0, none⟩) rows.length rows := by
 refine ⟨rfl, hl, fun _ => ⟨_, rfl, fun j p hj => ?_⟩⟩
 obtain ⟨hjl, hp⟩ := List.getElem?_eq_some_iff.1 hj
 have hg : rows.getD j [] = p := by rw [List.getD_eq_getElem?_getD, hj]; rfl
 obtain ⟨h1, h2⟩ := hr j hjl
 rw [hg] at h1 h2
 refine ⟨[.slice (some ⟨R j, 0, none⟩) p.length n], rfl, ⟨_, n, rfl, by omega, Kd.F_now (F_of_block (e := t') (ok := fun _ => True) h2 rfl (by omega) trivial)⟩, fun i u hu => ?_⟩
 cases i with
 | zero =>
  have h3 := World.news_of_block hb j (.slice (some ⟨R j, 0, none⟩) n n) (by rw [List.getElem?_map, List.getElem?_range hjl]; rfl)
  rw [show (Kd.slice e (Kd.int .i64)).sz = 1 from rfl, Nat.mul_one, Nat.add_zero]
  rw [h3, ← h1]
  simpa [h1] using hu
 | succ i => simp at hu
theorem C_mat {e B t t' n nr : Nat} {w : World} {rows : List (List Int)} (R : Nat → Nat) (hnr : rows.length = nr) (hb : w.heap[B]? = some (.cells ((List.range nr).map fun a => Value.slice (some ⟨R a, 0, none⟩) n n).toArray t (0, 0))) (hn : n ≤ maxLen) (hl : nr ≤ maxLen)
  (hr : ∀ a, a < nr → (rows.getD a []).length = n ∧ w.heap[R a]? = some (.cells (nums .i64 (rows.getD a [])).toArray t' (0, 0))) : Kd.C (Kd.slice e (Kd.int .i64)) w (some ⟨B, 0, none⟩) rows.length rows := by
 subst hnr; exact C_rows R hb hn hl hr
theorem bit_zero (k j : Nat) (hk : k < 2 ^ 62) (hj : j < 64) : (Go.bits .and .i64 ((k : Int) / 2 ^ j) 1 == 0) = !k.testBit j := by
 rw [show ((k : Int) / 2 ^ j) = ((k / 2 ^ j : Nat) : Int) from by rw [Int.natCast_ediv, Int.natCast_pow]; rfl, and1_nat _ (by have := Nat.div_le_self k (2 ^ j); omega), Nat.testBit_eq_decide_div_mod_eq, Bool.eq_iff_iff, beq_iff_eq, Bool.not_eq_true', decide_eq_false_iff_not]
 omega
theorem addr_zero (a : Addr) : a.add 0 = a := by unfold Addr.add; obtain ⟨b, o, x⟩ := a; cases x <;> rfl
theorem far_cell {w : World} {g i : Nat} {u : Value} {ad : Addr} (h : ad.block ≠ g) : (w.setCell ⟨g, i, none⟩ u).cell? ad = w.cell? ad := World.cell?_of_block (Below.heap_setCell w ⟨g, i, none⟩ u ad.block h)
theorem info_rowsp : (Try.prog.info? 22).map (fun i => (i.zero, i.size, i.bytes)) = some (some (.slice none 0 0), 1, 24) := by kernel_rfl
theorem sh_poly {P N : Nat} (hP : P ≤ 36) (hN : N = 2 ^ P) : wrap64 (2 ^ P) = (N : Int) := by
 subst hN
 have h : 2 ^ P ≤ 68719476736 := Nat.le_trans (Nat.pow_le_pow_right (by decide) hP) (by decide)
 rw [show ((2 : Int) ^ P) = ((2 ^ P : Nat) : Int) from (Int.natCast_pow 2 P).symm]
 generalize 2 ^ P = m at *
 unfold wrap64; omega
theorem made_rows (m : Nat) : madeCells (Value.cells (.slice none 0 0)) m = (List.replicate m (Value.slice none 0 0)).toArray := by
 apply Array.ext
 ·rw [size_madeCells]; simp
 ·intro j h1 h2
  have hj : j < m := by rw [size_madeCells] at h1; exact h1
  simp [madeCells, Value.cells, Nat.mod_one]
/-- make([][]int64, x). -/
theorem make_rows {P : Program} {t e : TypeId} (ht : P.underlying t = some (.slice e)) (hinfo : (P.info? e).map (fun i => (i.zero, i.size, i.bytes)) = some (some (.slice none 0 0), 1, 24)) (x : Int) (m : Nat) (hx : x = (m : Int)) (hm : m ≤ 1000) (W : World) :
  (Instr.makeSlice t (.int .i64 x) (.int .i64 x)).run P W = .ok (.slice (some ⟨W.heap.size, 0, none⟩) m m) (W.alloc (.cells (List.replicate m (Value.slice none 0 0)).toArray e)) := by
 subst hx
 obtain ⟨i0, hi, hzz⟩ := Option.map_eq_some_iff.1 hinfo
 simp only [Prod.mk.injEq] at hzz
 obtain ⟨hz0, hz1, hz2⟩ := hzz
 have h := run_make (P := P) W t e i0 (.slice none 0 0) ht hi hz0 .i64 .i64 m m (by omega) (Int.le_refl _) (by rw [hz2]; omega) (by omega)
 rw [h, Int.toNat_natCast, hz1, Nat.mul_one, made_rows]
/-- The slices of rows of which i are made. -/
def slTo (Bx n i : Nat) : List Value := (List.range n).map fun a => if a < i then Value.slice (some ⟨Bx + 1 + a, 0, none⟩) n n else .slice none 0 0
theorem slTo_zero (Bx n : Nat) : slTo Bx n 0 = List.replicate n (Value.slice none 0 0) := by
 unfold slTo
 rw [List.map_congr_left (g := fun _ => Value.slice none 0 0) (fun a _ => if_neg (Nat.not_lt_zero _)), List.map_const']; simp
theorem slTo_succ (Bx n i : Nat) (h : i < n) : (slTo Bx n i).toArray.setIfInBounds i (.slice (some ⟨Bx + 1 + i, 0, none⟩) n n) = (slTo Bx n (i + 1)).toArray := by
 rw [List.setIfInBounds_toArray]
 congr 1
 apply List.ext_getElem
 ·simp [slTo]
 ·intro j h1 h2
  have hj : j < n := by simpa [slTo] using h2
  simp only [slTo, List.getElem_set, List.getElem_map, List.getElem_range]
  by_cases e : i = j
  ·subst e; rw [if_pos rfl, if_pos (by omega)]
  ·rw [if_neg e]
   by_cases g : j < i
   ·rw [if_pos g, if_pos (by omega)]
   ·rw [if_neg g, if_neg (by omega)]
theorem slTo_full (Bx n : Nat) : slTo Bx n n = (List.range n).map fun a => Value.slice (some ⟨Bx + 1 + a, 0, none⟩) n n := by
 unfold slTo
 exact List.map_congr_left fun a ha => if_pos (List.mem_range.1 ha)
theorem slTo_get (Bx n : Nat) {a : Nat} (h : a < n) : (slTo Bx n n).toArray[a]? = some (.slice (some ⟨Bx + 1 + a, 0, none⟩) n n) := by
 rw [slTo_full]; simp [h]
theorem slTo_any (Bx n i : Nat) {a : Nat} (h : a < n) : ∃ u, (slTo Bx n i).toArray[a]? = some u := by
 refine ⟨_, Array.getElem?_eq_getElem (by simp [slTo]; exact h)⟩
theorem nums_put (n : Nat) (l : List Int) (k : Nat) : (nums .i64 l).toArray.setIfInBounds k (.int .i64 1) = (nums .i64 (l.set k 1)).toArray := nums_set l k 1
set_option maxHeartbeats 4000000 in
set_option maxRecDepth 100000 in
theorem poly_walk (l0 : List Int) (A0 : Option Addr) (c0 n : Nat) (hw : Word l0) (hn : n = l0.length / 2) (hc0 : l0.length ≤ c0) (w : World) (hr : Kd.C (Kd.int .i64) w A0 l0.length l0) :
  Calls Try.prog 115 #[.slice A0 l0.length c0] w fun e w' => ∃ v0_ : Value, e = .returned v0_ ∧ Kd.R (Kd.int .i64) 2 w' w.heap.size (fun _ => True) v0_ (polyV l0) ∧ Below w.heap.size w w' := by
 have hle := hw.le
 obtain ⟨X, hX⟩ : ∃ X, X = crossB l0 := ⟨_, rfl⟩
 obtain ⟨m, hm⟩ : ∃ m, m = n + 1 := ⟨_, rfl⟩
 obtain ⟨q, hq⟩ := Ev.rounds (srows_ev l0 hw)
 obtain ⟨rws, hrws⟩ : ∃ rws, rws = rowsOf l0 := ⟨_, rfl⟩
 rw [← hrws] at hq
 have hn6 : n ≤ 6 := by omega
 have hrl : rws.length = n := by rw [hrws, rowsOf, rowsTo_len, hn]
 have hrow : ∀ i, i < n → (rws.getD i []).length = n ∧ ∀ k, k < n → (rws.getD i []).getD k 0 = if X i k = true then 1 else 0 := by
  intro i hi
  have e : rws.getD i [] = rowTo l0 i n := by
   rw [hrws, rowsOf, rowsTo, List.getD_eq_getElem?_getD, List.getElem?_map, List.getElem?_range (by omega), hn]; rfl
  rw [e]
  refine ⟨rowTo_len _ _ _, fun k hk => ?_⟩
  rw [rowTo, List.getD_eq_getElem?_getD, List.getElem?_map, List.getElem?_range hk, hX]; rfl
 have hmk := make_ints (P := Try.prog) Try.underlying22 info2 ((n : Int) + 1) m (by omega) (by omega)
 have hlen : wrap64 ((l0.length : Int) / 2) = (n : Int) := by unfold wrap64; omega
 have HW := Aside0.mk hw
 have HX := Aside0.mk hX
 have HN := Aside0.mk hn
 have HN6 := Aside0.mk hn6
 have HM := Aside0.mk hm
 have HQ := Aside0.mk hq
 have HROW := Aside0.mk hrow
 have HRL := Aside0.mk hrl
 have HR := Aside0.mk hr
 have HC := Aside0.mk hc0
 clear hw hX hn hm hq hrws hr hc0 hle hrl hrow
 go_enter Try.func115, Try.ntmps115
 go_wp2_with (first
  | (go_at_call 135; refine (spec_l01Cross.calls q A0 c0 l0 rws _ HR.out HC.out HQ.out).mono ?_; rintro e w1 ⟨v1, rfl, ho1, hb1⟩; obtain ⟨A1, c1, rfl⟩ := Kd.S_slice ho1; have HF1 := Aside0.mk (Kd.S_F ho1); have HB1 := Aside0.mk hb1; clear ho1 hb1)
  | ((with_reducible refine gate_dst (N := 21) rfl ?_); refine Kd.N_lit (Kd.slice 2 (Kd.int .i64)) (w0 := w1) w1.heap.size 22 ?hg (N' := 21) ?hd (xs := ([] : List (List Int))) (inner := []) (ok := fun k => w1.heap.size ≤ k) (okp := fun _ => False) ?hr ?hp (fun _ hk => hk.elim) (Nat.le_refl _) (Below.refl _ _) (Nat.le_refl _) (by simp) ?_; (case hd => rfl); (case hg => rfl); (case hr => first | (go_simp; done) | (go_simp; rfl)); (case hp => exact (Reps.none _ _)); intro v21 w2 ho2 hb2 hg_ hnew_; have HO2 := Aside0.mk ho2; have HB2 := Aside0.mk hb2; clear ho2 hb2 hg_ hnew_))
 simp only [HRL.out]
 have HF1n : Aside0 (Kd.F (Kd.slice 2 (Kd.int .i64)) w1 (fun _ => True) A1 n rws) := ⟨by have := HF1.out; rw [HRL.out] at this; exact this⟩
 obtain ⟨Bo, hBo⟩ : ∃ Bo, Bo = w2.heap.size := ⟨_, rfl⟩
 rw [← hBo]
 have HBO := Aside0.mk hBo
 have HBL := Aside0.mk (show w1.heap.size ≤ Bo from by rw [hBo]; exact HB2.out.size)
 have HOs : Aside0 (Kd.N (Kd.slice 2 (Kd.int .i64)) 22 (w2.alloc (.cells (nums .i64 (List.replicate m 0)).toArray 2)) w1.heap.size (fun q => w1.heap.size ≤ q ∧ q ≠ Bo) v21 ((pairsTo X 0 0).map prow)) := ⟨by
  have h := Kd.N_alloc (Kd.N_mono (ok' := fun q => w1.heap.size ≤ q ∧ q ≠ Bo) (Kd.N_bound HO2.out) (fun k hk => ⟨hk.1, by have := hk.2; omega⟩)) (.cells (nums .i64 (List.replicate m 0)).toArray 2)
  simpa [pairsTo] using h⟩
 have HHs : Aside0 ((w2.alloc (.cells (nums .i64 (List.replicate m 0)).toArray 2)).heap[Bo]? = some (.cells (nums .i64 (List.replicate m 0)).toArray 2 (0, 0))) := ⟨new_at hBo⟩
 have HBs : Aside0 (Below w1.heap.size w1 (w2.alloc (.cells (nums .i64 (List.replicate m 0)).toArray 2))) := ⟨below_alloc HB2.out _⟩
 clear hBo hmk hlen
 go_loopw [5, 7] (fun s5 s7 wr => ∃ (i : Nat) (v5 : Value), s5 = v5 ∧ s7 = .int .i64 (i : Int) ∧ Aside0 (i ≤ n) ∧ Aside0 (Kd.N (Kd.slice 2 (Kd.int .i64)) 22 wr w1.heap.size (fun q => w1.heap.size ≤ q ∧ q ≠ Bo) v5 ((pairsTo X i 0).map prow)) ∧ Aside0 (wr.heap[Bo]? = some (.cells (nums .i64 (List.replicate m 0)).toArray 2 (0, 0))) ∧ Aside0 (Below w1.heap.size w1 wr))
  (fun _ s7 _ => n - (intOf s7).toNat)
 case atStart => exact ⟨0, _, rfl, rfl, ⟨Nat.zero_le _⟩, HOs, HHs, HBs⟩
 case round =>
  clear HOs HHs HBs
  obtain ⟨i, v5, rfl, rfl, HI, HO, HH, HB⟩ := hrel
  by_cases hlt : i < n
  ·have t1 : decide ((i : Int) < (n : Int)) = true := decide_eq_true (by omega)
   have t2 : decide (i < n) = true := decide_eq_true hlt
   have HLT := Aside0.mk hlt
   go_wp2_with fail
   go_loopw [5, 8] (fun s5 s8 wr => ∃ (k : Nat) (v5 : Value), s5 = v5 ∧ s8 = .int .i64 (k : Int) ∧ Aside0 (k ≤ i) ∧ Aside0 (Kd.N (Kd.slice 2 (Kd.int .i64)) 22 wr w1.heap.size (fun q => w1.heap.size ≤ q ∧ q ≠ Bo) v5 ((pairsTo X i k).map prow)) ∧ Aside0 (wr.heap[Bo]? = some (.cells (nums .i64 (List.replicate m 0)).toArray 2 (0, 0))) ∧ Aside0 (Below w1.heap.size w1 wr))
    (fun _ s8 _ => i - (intOf s8).toNat)
   case atStart => exact ⟨0, _, rfl, rfl, ⟨Nat.zero_le _⟩, HO, HH, HB⟩
   case round =>
    clear HO HH HB
    obtain ⟨k, v5, rfl, rfl, HK, HO, HH, HB⟩ := hrel
    by_cases hk : k < i
    ·have t3 : decide ((k : Int) < (i : Int)) = true := decide_eq_true (by omega)
     have t4 : decide (k < i) = true := decide_eq_true hk
     have t5 : decide (k < n) = true := decide_eq_true (by omega)
     have t6 : decide ((k : Int) < (n : Int)) = true := decide_eq_true (by omega)
     have HKI := Aside0.mk hk
     have hkn : k < n := by omega
     obtain ⟨ad1, cs, rfl, hcl, hFK, hcc, _⟩ := Kd.F_get (Kd.F_below HF1n.out HB.out) [] (i : Int) (by omega) (by omega)
     rw [Int.toNat_natCast] at hFK hcc
     have hrw := HROW.out i hlt
     obtain ⟨Aa, ca, rfl, hal, hFa⟩ := Kd.FK_slice_open hFK
     have hrow := hcc 0 _ rfl
     rw [show (Kd.slice 2 (Kd.int .i64)).sz = 1 from rfl, Nat.mul_one, Nat.add_zero, hrw.1] at hrow
     obtain ⟨ad2, rfl, hcell⟩ := cell_of_C (Kd.F_now hFa) k (by rw [hrw.1]; omega)
     rw [hrw.2 k (by omega)] at hcell
     clear hFK hcc hcl hal hFa hrw
     cases hx : X i k with
     | true =>
      rw [hx, if_pos rfl] at hcell
      have HXX := Aside0.mk hx
      have HP1 := Aside0.mk (pairsTo_len X (i := i) (k := k) (by have := HN6.out; omega) (by have := HN6.out; omega))
      have HLO := Aside0.mk (Kd.N_lt HO.out)
      have HBW := Aside0.mk (blk_lt HH.out)
      clear hx hk
      go_wp2_with (first | (at_builtin; (refine Kd.N_append (Kd.slice 2 (Kd.int .i64)) (w0 := w1) w1.heap.size rfl (.tmp 43) (.tmp 47) 23 22 (.slice none 0 0) 24 rfl Try.underlying23 info_rowsp rfl (by decide) (by omega) u5 ((pairsTo X i k).map prow) (prow (i, k)) [.slice (some ⟨wr.heap.size, 0, none⟩) 2 2] (fun q => w1.heap.size ≤ q ∧ q ≠ Bo) (fun q => q = wr.heap.size) rfl ?hx ?aP ?aK ?aF ?aO ?aB ?aS ?aL ?_; (case hx => simp [Act.eval, Act.put]); (case aP => exact Kd.FK_slice_mk (c := 2) (l := prow (i, k)) (Nat.le_refl _) (F_of_block (e := 2) (ok := fun q => q = wr.heap.size) (xs := prow (i, k)) (new_at rfl) rfl (by show 2 ≤ maxLen; unfold maxLen; omega) rfl)); (case aO => exact Kd.N_alloc HO.out _); (case aK => exact fun q hq => ⟨⟨by rw [hq]; exact HB.out.size, by rw [hq]; have := HBW.out; omega⟩, fun e => by have h1 := HLO.out q e.symm; omega⟩); (case aF => exact fun q hq => by have h1 := HBW.out; have h2 := HB.out.size; simp at hq; omega); (case aB => exact below_alloc HB.out _); (case aS => have := HB.out.size; simp; omega); (case aL => have h1 := HP1.out; rw [List.length_map]; omega); intro v9 w9 ho9 hb9 hg9 hat9; have HO9 := Aside0.mk ho9; have HB9 := Aside0.mk hb9; have HG9 := Aside0.mk hg9; clear ho9 hb9 hg9 hat9)))
      go_roundw
      case rel => exact ⟨k + 1, _, rfl, (by first | rfl | exact congrArg _ (wS (by have := HKI.out; have := HLT.out; have := HN6.out; omega))), ⟨HKI.out⟩, ⟨by rw [pairsTo_succ, if_pos HXX.out, List.map_append]; exact HO9.out⟩, ⟨(HG9.out.block Bo (by have := HBW.out; simp; omega) (fun e => (HO.out.1 Bo e.symm).2 rfl)).trans (blk_alloc HH.out _)⟩, HB9⟩
      case measure => have h1 := HKI.out; have h2 := HLT.out; have h3 := HN6.out; (try rw [wS (by omega)]); simp [intOf]; omega
     | false =>
      rw [hx, if_neg (by simp)] at hcell
      have HXX := Aside0.mk hx
      clear hx hk
      go_wp2_with fail
      go_roundw
      case rel => exact ⟨k + 1, _, rfl, (by first | rfl | exact congrArg _ (wS (by have := HKI.out; have := HLT.out; have := HN6.out; omega))), ⟨HKI.out⟩, ⟨by rw [pairsTo_succ, if_neg (by rw [HXX.out]; simp)]; exact HO.out⟩, HH, HB⟩
      case measure => have h1 := HKI.out; have h2 := HLT.out; have h3 := HN6.out; (try rw [wS (by omega)]); simp [intOf]; omega
    ·have t3 : decide ((k : Int) < (i : Int)) = false := decide_eq_false (by omega)
     have t4 : decide (k < i) = false := decide_eq_false hk
     have HKE := Aside0.mk (show k = i from by have := HK.out; omega)
     clear hk
     go_wp2
     go_roundw
     case rel => exact ⟨i + 1, _, rfl, (by first | rfl | exact congrArg _ (wS (by have := HLT.out; have := HN6.out; omega))), ⟨HLT.out⟩, ⟨by rw [← pairsTo_end]; have h := HO.out; rw [HKE.out] at h; exact h⟩, HH, HB⟩
     case measure => have h2 := HLT.out; have h3 := HN6.out; (try rw [wS (by omega)]); simp [intOf]; omega
  ·have t1 : decide ((i : Int) < (n : Int)) = false := decide_eq_false (by omega)
   have t2 : decide (i < n) = false := decide_eq_false hlt
   have HIE := Aside0.mk (show i = n from by have := HI.out; omega)
   clear hlt
   obtain ⟨E, hE⟩ : ∃ E, E = pairsOf X n := ⟨_, rfl⟩
   have ho := HO.out
   rw [HIE.out, pairsTo_zero, ← hE] at ho
   obtain ⟨A5, c5, rfl⟩ := Kd.N_slice ho
   have hFP := Kd.N_F ho
   obtain ⟨P, hP⟩ : ∃ P, P = E.length := ⟨_, rfl⟩
   rw [List.length_map, ← hP] at hFP
   obtain ⟨N, hN⟩ : ∃ N, N = 2 ^ P := ⟨_, rfl⟩
   have hP36 : P ≤ 36 := by rw [hP, hE]; exact pairs_len X n hn6
   have hN2 : N ≤ 68719476736 := by rw [hN]; exact Nat.le_trans (Nat.pow_le_pow_right (by decide) hP36) (by decide)
   have hsh := sh_poly hP36 hN
   simp only [List.length_map, ← hP]
   have HE := Aside0.mk hE
   have HFP := Aside0.mk hFP
   have HP := Aside0.mk hP
   have HNN := Aside0.mk hN
   have HHs : Aside0 (wr.heap[Bo]? = some (.cells (nums .i64 (polyTo l0 0)).toArray 2 (0, 0))) := ⟨by rw [polyTo, ← HN.out, ← HM.out]; exact HH.out⟩
   have HBW := Aside0.mk (blk_lt HH.out)
   clear ho hE hFP hP hN HO HH HI
   go_wp2_with fail
   obtain ⟨wp, hwp⟩ : ∃ wp, wp = wr := ⟨wr, rfl⟩
   subst hwp
   have hmr := make_rows (P := Try.prog) Try.underlying23 info_rowsp (n : Int) n rfl (by omega)
   have hmk := make_ints (P := Try.prog) Try.underlying22 info2 (n : Int) n rfl (by omega)
   go_loopw [9] (fun s9 wq => ∃ s : Nat, s9 = .int .i64 (s : Int) ∧ Aside0 (s ≤ N) ∧ Aside0 (wp.grownBy wq (some Bo)) ∧ Aside0 (wq.heap[Bo]? = some (.cells (nums .i64 (polyTo l0 s)).toArray 2 (0, 0))))
    (fun s9 _ => N - (intOf s9).toNat)
   case atStart => exact ⟨0, rfl, ⟨Nat.zero_le _⟩, ⟨grown_refl _ _⟩, HHs⟩
   case round =>
    clear HHs
    obtain ⟨s, rfl, HS, HG, HH⟩ := hrel
    have HFPr := Aside0.mk (Kd.F_grown HFP.out HG.out (fun k hk e => hk.2 (Option.some.inj e)))
    have HBW3 := Aside0.mk (blk_lt HH.out)
    by_cases hlt : s < N
    ·have t1 : decide ((s : Int) < (N : Int)) = true := decide_eq_true (by omega)
     have t2 : decide (s < N) = true := decide_eq_true hlt
     have HLT := Aside0.mk hlt
     clear hlt
     obtain ⟨Bx, hBx⟩ : ∃ Bx, Bx = wr.heap.size := ⟨_, rfl⟩
     have HBX := Aside0.mk hBx
     obtain ⟨wo, hwo⟩ : ∃ wo, wo = wr := ⟨wr, rfl⟩
     subst hwo
     go_wp2_with fail
     rw [← hBx]
     have HX0 : Aside0 ((wo.alloc (.cells (Array.replicate n (Value.slice none 0 0)) 22)).heap[Bx]? = some (.cells (slTo Bx n 0).toArray 22 (0, 0))) := ⟨by rw [slTo_zero, List.toArray_replicate]; exact new_at hBx⟩
     have HS0 : Aside0 ((wo.alloc (.cells (Array.replicate n (Value.slice none 0 0)) 22)).heap.size = Bx + 1 + 0) := ⟨by simp [hBx]⟩
     clear hBx
     (try simp only [hsh])
     go_loopw [12] (fun s12 wq => ∃ i : Nat, s12 = .int .i64 (i : Int) ∧ Aside0 (i ≤ n) ∧ Aside0 (wo.grownBy wq none) ∧ Aside0 (wq.heap.size = Bx + 1 + i) ∧ Aside0 (wq.heap[Bx]? = some (.cells (slTo Bx n i).toArray 22 (0, 0))) ∧ Aside0 (∀ a, a < i → wq.heap[Bx + 1 + a]? = some (.cells (nums .i64 (List.replicate n 0)).toArray 2 (0, 0))))
      (fun s12 _ => n - (intOf s12).toNat)
     case atStart => exact ⟨0, rfl, ⟨Nat.zero_le _⟩, ⟨grown_alloc (grown_refl _ _) _⟩, HS0, HX0, ⟨fun a ha => absurd ha (Nat.not_lt_zero _)⟩⟩
     case round =>
      clear HX0 HS0
      obtain ⟨i, rfl, HI, HG4, HSZ, HX4, HR4⟩ := hrel
      by_cases hi : i < n
      ·have t3 : decide ((i : Int) < (n : Int)) = true := decide_eq_true (by omega)
       have t4 : decide (i < n) = true := decide_eq_true hi
       obtain ⟨u, hu⟩ := slTo_any Bx n i hi
       have hx := (blk_cell (blk_alloc HX4.out (.cells (nums .i64 (List.replicate n 0)).toArray 2)) i).trans hu
       have hfz := blk_frozen (blk_alloc HX4.out (.cells (nums .i64 (List.replicate n 0)).toArray 2)) i
       have HIN := Aside0.mk hi
       go_wp2_with fail
       go_roundw
       case rel =>
        refine ⟨i + 1, (by first | rfl | exact congrArg _ (wS (by have := HIN.out; have := HN6.out; omega))), ⟨HIN.out⟩, ⟨grown_put_new (grown_alloc HG4.out _) (by rw [HBX.out]; exact Nat.le_refl _) _ _⟩, ⟨by have := HSZ.out; simp [World.setCell]; omega⟩, ⟨?_⟩, ⟨fun a ha => ?_⟩⟩
        ·have h := blk_set (blk_alloc HX4.out (.cells (nums .i64 (List.replicate n 0)).toArray 2)) i (.slice (some ⟨wr.heap.size, 0, none⟩) n n)
         rw [HSZ.out, slTo_succ Bx n i HIN.out] at h
         rw [HSZ.out]
         exact h
        ·by_cases e : a = i
         ·subst e
          exact blk_far (new_at HSZ.out.symm) (show Bx + 1 + a ≠ Bx from by omega) _
         ·exact blk_far (blk_alloc (HR4.out a (by omega)) _) (show Bx + 1 + a ≠ Bx from by omega) _
       case measure => have h2 := HIN.out; have h3 := HN6.out; (try rw [wS (by omega)]); simp [intOf]; omega
      ·have t3 : decide ((i : Int) < (n : Int)) = false := decide_eq_false (by omega)
       have t4 : decide (i < n) = false := decide_eq_false hi
       have HIN := Aside0.mk (show i = n from by have := HI.out; omega)
       clear hi
       have hx4 := HX4.out
       have hr4 := HR4.out
       rw [HIN.out] at hx4 hr4
       have HX5 : Aside0 (wr.heap[Bx]? = some (.cells (slTo Bx n n).toArray 22 (0, 0))) := ⟨hx4⟩
       have HR5 : Aside0 (∀ a, a < n → wr.heap[Bx + 1 + a]? = some (.cells (nums .i64 (matRow n (selTo E s 0) a)).toArray 2 (0, 0))) := ⟨fun a ha => by
        have h := hr4 a ha
        rw [show selTo E s 0 = [] from rfl, matRow_nil]; exact h⟩
       clear hx4 hr4 HR4 HX4 HSZ HI hmr hmk
       have HFB : Aside0 (Kd.F (Kd.slice 2 (Kd.int .i64)) wo (fun q => q < Bx) A5 P (E.map prow)) := ⟨Kd.F_mono (Kd.F_bound HFPr.out) (fun q hq => by rw [HBX.out]; exact hq.2)⟩
       go_wp2_with fail
       (try simp only [hsh])
       go_loopw [11, 13] (fun s11 s13 wq => ∃ j : Nat, s11 = .int .i64 (sgnTo s j) ∧ s13 = .int .i64 (j : Int) ∧ Aside0 (j ≤ P) ∧ Aside0 (wo.grownBy wq none) ∧ Aside0 (wq.heap[Bx]? = some (.cells (slTo Bx n n).toArray 22 (0, 0))) ∧ Aside0 (∀ a, a < n → wq.heap[Bx + 1 + a]? = some (.cells (nums .i64 (matRow n (selTo E s j) a)).toArray 2 (0, 0))))
        (fun _ s13 _ => P - (intOf s13).toNat)
       case atStart => exact ⟨0, rfl, rfl, ⟨Nat.zero_le _⟩, HG4, HX5, HR5⟩
       case round =>
        clear HG4 HX5 HR5
        obtain ⟨j, rfl, rfl, HJ, HG5, HX5, HR5⟩ := hrel
        by_cases hj : j < P
        ·have t5 : decide ((j : Int) < (P : Int)) = true := decide_eq_true (by omega)
         have t6 : decide (j < P) = true := decide_eq_true hj
         have HJP := Aside0.mk hj
         have hb0 := bit_zero s j (by have := HLT.out; omega) (by omega)
         obtain ⟨sg, hsg⟩ : ∃ sg, sg = sgnTo s j := ⟨_, rfl⟩
         have hs1 : sg = 1 ∨ sg = -1 := by rw [hsg]; exact sgnTo_is s j
         rw [← hsg]
         have HSG := Aside0.mk hsg
         have HS1 := Aside0.mk hs1
         clear hsg hs1
         cases hbt : s.testBit j with
         | false =>
          rw [hbt] at hb0; simp only [Bool.not_false, Bool.not_true] at hb0
          have HBT := Aside0.mk hbt
          clear hbt
          go_wp2_with fail
          go_roundw
          case rel => exact ⟨j + 1, (by rw [sgnTo, if_neg (by rw [HBT.out]; simp), HSG.out]), (by first | rfl | exact congrArg _ (wS (by have := HJP.out; omega))), ⟨HJP.out⟩, HG5, HX5, ⟨by rw [selTo_succ, if_neg (by rw [HBT.out]; simp)]; exact HR5.out⟩⟩
          case measure => have h2 := HJP.out; (try rw [wS (by omega)]); simp [intOf]; omega
         | true =>
          rw [hbt] at hb0; simp only [Bool.not_false, Bool.not_true] at hb0
          have HBT := Aside0.mk hbt
          clear hbt
          have HFj := Kd.F_grown HFB.out HG5.out (fun k hk e => by simp at e)
          have hEj := pairs_at X n j (by rw [← HE.out, ← HP.out]; exact hj)
          rw [← HE.out] at hEj
          obtain ⟨⟨ia, kb⟩, hab⟩ : ∃ ab, ab = E.getD j (0, 0) := ⟨_, rfl⟩
          rw [← hab] at hEj
          obtain ⟨hia, hkb⟩ : ia < n ∧ kb < ia := hEj
          have hkn : kb < n := by omega
          obtain ⟨ad5, cs, rfl, hcl, hFK, hcc, _⟩ := Kd.F_get HFj [] (j : Int) (by omega) (by omega)
          have hblk5 : ad5.block < Bx := Kd.F_in HFj rfl (by omega) (by decide)
          rw [Int.toNat_natCast] at hFK hcc
          rw [show (E.map prow).getD j [] = prow (ia, kb) from by rw [hab, List.getD_eq_getElem?_getD, List.getElem?_map, List.getElem?_eq_getElem (by rw [← HP.out]; exact hj), List.getD_eq_getElem?_getD, List.getElem?_eq_getElem (by rw [← HP.out]; exact hj)]; rfl] at hFK
          obtain ⟨Ap, cp, rfl, hal, hFa⟩ := Kd.FK_slice_open hFK
          have hpr := hcc 0 _ rfl
          rw [show (Kd.slice 2 (Kd.int .i64)).sz = 1 from rfl, Nat.mul_one, Nat.add_zero, show (prow (ia, kb)).length = 2 from rfl] at hpr
          obtain ⟨ad6, rfl, hp0⟩ := cell_of_C (Kd.F_now hFa) 0 (by show 0 < 2; omega)
          obtain ⟨ad7, he7, hp1⟩ := cell_of_C (Kd.F_now hFa) 1 (by show 1 < 2; omega)
          obtain rfl := Option.some.inj he7
          have hblk6 : ad6.block < Bx := Kd.F_in hFa rfl (by show 0 < 2; omega) (by decide)
          rw [show (prow (ia, kb)).getD 0 0 = (ia : Int) from rfl] at hp0
          rw [show (prow (ia, kb)).getD 1 0 = (kb : Int) from rfl] at hp1
          have ho1 := (blk_cell HX5.out ia).trans (slTo_get Bx n hia)
          have ho2 := (blk_cell HX5.out kb).trans (slTo_get Bx n hkn)
          have hR1 := HR5.out ia hia
          have hR2 := HR5.out kb hkn
          have hx1 := (blk_cell hR1 kb).trans (nums_get _ kb (by rw [matRow_len]; exact hkn))
          have hf1 := blk_frozen hR1 kb
          have hp0z := (congrArg _ (addr_zero ad6).symm).trans hp0
          have hp1z : wr.cell? ⟨ad6.block, ad6.off + 1, none⟩ = some (.int .i64 (kb : Int)) := hp1
          have HAB := Aside0.mk hab
          have HIA := Aside0.mk hia
          have HKB := Aside0.mk hkb
          have HRR1 := Aside0.mk hR1
          have HRB := Aside0.mk hR2
          have HB5 := Aside0.mk hblk5
          have HB6 := Aside0.mk hblk6
          clear hR1 hR2 hFK hFa hal hcc hcl hab hblk5 hblk6 HFj
          go_wp2_with fail
          go_quiet (fail)
          have hblk5 := HB5.out
          have hblk6 := HB6.out
          have hR2' := blk_far (blk_drewN HRB.out nq) (p := ⟨Bx + 1 + ia, kb, none⟩) (show Bx + 1 + kb ≠ Bx + 1 + ia from by omega) (.int .i64 1)
          have hx2 := (blk_cell hR2' ia).trans (nums_get _ ia (by rw [matRow_len]; exact hia))
          have hf2 := blk_frozen hR2' ia
          have hpr' := (far_cell (w := wr.drewN nq) (g := Bx + 1 + ia) (i := kb) (u := .int .i64 1) (ad := ad5.add j) (by rw [add_block]; omega)).trans (show (wr.drewN nq).cell? (ad5.add j) = _ from hpr)
          have hp0' := (far_cell (w := wr.drewN nq) (g := Bx + 1 + ia) (i := kb) (u := .int .i64 1) (ad := ad6.add 0) (by rw [add_block]; omega)).trans (show (wr.drewN nq).cell? (ad6.add 0) = _ from hp0)
          have hp0z' := (congrArg _ (addr_zero ad6).symm).trans hp0'
          have HRR2 := Aside0.mk hR2'
          clear hR2' hblk5 hblk6
          go_wp2_with fail
          go_roundw
          case rel =>
           refine ⟨j + 1, ?_, (by first | rfl | exact congrArg _ (wS (by have := HJP.out; omega))), ⟨HJP.out⟩, ⟨grown_put_new (grown_put_new (grown_drewN HG5.out _) (by have := HBX.out; omega) _ _) (by have := HBX.out; omega) _ _⟩, ⟨?_⟩, ⟨fun a ha => ?_⟩⟩
           ·have e : wrap64 (-sg) = sgnTo s (j + 1) := by
             rw [sgnTo, if_pos HBT.out, ← HSG.out]
             rcases HS1.out with h | h <;> rw [h] <;> unfold wrap64 <;> omega
            rw [e]
           ·exact blk_far (blk_far (blk_drewN HX5.out nq) (show Bx ≠ Bx + 1 + ia from by omega) _) (show Bx ≠ Bx + 1 + kb from by omega) _
           ·have hka := HKB.out
            have hin := HIA.out
            rw [selTo_succ, if_pos HBT.out, ← HAB.out]
            by_cases e1 : a = ia
            ·subst e1
             rw [matRow_i _ hka hin, ← nums_put n]
             exact blk_far (blk_set (blk_drewN HRR1.out nq) kb _) (show Bx + 1 + a ≠ Bx + 1 + kb from by omega) _
            ·by_cases e2 : a = kb
             ·subst e2
              rw [matRow_k _ hka hin, ← nums_put n]
              exact blk_set HRR2.out ia _
             ·rw [matRow_o _ e1 e2]
              exact blk_far (blk_far (blk_drewN (HR5.out a ha) nq) (show Bx + 1 + a ≠ Bx + 1 + ia from by omega) _) (show Bx + 1 + a ≠ Bx + 1 + kb from by omega) _
          case measure => have h2 := HJP.out; (try rw [wS (by omega)]); simp [intOf]; omega
        ·have t5 : decide ((j : Int) < (P : Int)) = false := decide_eq_false (by omega)
         have t6 : decide (j < P) = false := decide_eq_false hj
         have HJP := Aside0.mk (show j = P from by have := HJ.out; omega)
         clear hj
         obtain ⟨Lr, hLr, hLl⟩ := parts_ev (mat_lbl X n s hn6)
         obtain ⟨K, hK⟩ := Ev.rounds hLr
         have hsel : selTo E s j = sel (pairsOf X n) s := by rw [HJP.out, HP.out, HE.out, sel_to]
         have hq : qOf l0 s = Lr.length := by rw [hLl, qOf, ← HX.out, ← HN.out]
         have hsg : sgnTo s j = sOf l0 s := by rw [HJP.out, HP.out, sgn_to, HE.out, sOf, ← HX.out, ← HN.out]
         obtain ⟨sg, hsg2⟩ : ∃ sg, sg = sgnTo s j := ⟨_, rfl⟩
         rw [← hsg2]
         have HSG := Aside0.mk (hsg2.trans hsg)
         have hqm : Lr.length < m := by
          have := roots_le (lblOf (pairsOf X n) s id) n 0
          have := HM.out
          omega
         have hpl : (polyTo l0 s).length = m := by rw [polyTo_len, HM.out, HN.out]
         have hr5 := HR5.out
         rw [hsel] at hr5
         have hmatC : ∀ W : World, W.heap[Bx]? = some (.cells (slTo Bx n n).toArray 22 (0, 0)) → (∀ a, a < n → W.heap[Bx + 1 + a]? = some (.cells (nums .i64 (matRow n (sel (pairsOf X n) s) a)).toArray 2 (0, 0))) → Kd.C (Kd.slice 2 (Kd.int .i64)) W (some ⟨Bx, 0, none⟩) (mat n (sel (pairsOf X n) s)).length (mat n (sel (pairsOf X n) s)) := by
          intro W h1 h2
          rw [slTo_full] at h1
          refine C_mat (fun a => Bx + 1 + a) (mat_len _ _) h1 (by unfold maxLen; omega) (by unfold maxLen; omega) (t' := 2) (fun a ha => ?_)
          rw [mat_row _ ha]
          exact ⟨matRow_len _ _ _, h2 a ha⟩
         have HMC := Aside0.mk hmatC
         have HK := Aside0.mk hK
         have HQ2 := Aside0.mk hq
         have HR6 := Aside0.mk hr5
         have HPL := Aside0.mk hpl
         have HQM := Aside0.mk hqm
         clear hmatC hLr hLl hK hsel hq hsg hsg2 hr5 HR5 hpl
         go_wp2_with (first
          | (go_at_call 172; refine (calls_len0 (mat_len n (sel (pairsOf X n) s)) (spec_l02Parts.calls K (some ⟨Bx, 0, none⟩) n (mat n (sel (pairsOf X n) s)) Lr wr (HMC.out wr HX5.out HR6.out) (by rw [mat_len]; exact Nat.le_refl _) HK.out)).mono ?_; rintro e w8 ⟨v8, rfl, ho8, hb8⟩; obtain ⟨A8, c8, rfl⟩ := Kd.S_slice ho8; have HB8 := Aside0.mk hb8; have HX8 := Aside0.mk (blk_below HX5.out hb8); have HR8 : Aside0 (∀ a, a < n → w8.heap[Bx + 1 + a]? = some (.cells (nums .i64 (matRow n (sel (pairsOf X n) s) a)).toArray 2 (0, 0))) := ⟨fun a ha => blk_below (HR6.out a ha) hb8⟩; clear ho8 hb8)
          | (go_at_call 172; refine (calls_len0 (mat_len n (sel (pairsOf X n) s)) (spec_l02Parts.calls K (some ⟨Bx, 0, none⟩) n (mat n (sel (pairsOf X n) s)) Lr w8 (HMC.out w8 HX8.out HR8.out) (by rw [mat_len]; exact Nat.le_refl _) HK.out)).mono ?_; rintro e w9 ⟨v9, rfl, ho9, hb9⟩; obtain ⟨A9, c9, rfl⟩ := Kd.S_slice ho9; have HG9 := Aside0.mk (grown_trans HG5.out (grown_trans (gb_of_below HB8.out none) (gb_of_below hb9 none))); have HH9 := Aside0.mk (blk_grown HH.out HG9.out (by simp)); have hx9 := (blk_cell HH9.out Lr.length).trans (nums_get _ Lr.length (by rw [HPL.out]; exact HQM.out)); have hf9 := blk_frozen HH9.out Lr.length; clear ho9 hb9))
         go_roundw
         case rel =>
          refine ⟨s + 1, (by first | rfl | exact congrArg _ (wS (by have := HLT.out; omega))), ⟨HLT.out⟩, ⟨grown_set (grown_trans HG.out (grown_of_none HG9.out _)) _ _⟩, ⟨?_⟩⟩
          rw [polyTo, HQ2.out, ← HSG.out, ← nums_set]
          exact blk_set HH9.out _ _
         case measure => have h2 := HLT.out; (try rw [wS (by omega)]); simp [intOf]; omega
    ·have t1 : decide ((s : Int) < (N : Int)) = false := decide_eq_false (by omega)
     have t2 : decide (s < N) = false := decide_eq_false hlt
     have HSE := Aside0.mk (show s = N from by have := HS.out; omega)
     clear hlt
     go_wp2
     go_ret
     refine ⟨_, rfl, ?_, ?_⟩
     ·have e : polyV l0 = polyTo l0 s := by rw [polyV, HSE.out, HNN.out, HP.out, HE.out, HX.out, HN.out]
      rw [e]
      exact R_of_block HH.out (by rw [polyTo_len, HM.out, HN.out]) (by have := HM.out; have := HN6.out; unfold maxLen; omega) (by have := HBL.out; have := HB1.out.size; omega)
     ·exact below_step HB1.out (below_grown HB.out HG.out HBL.out)
def spec_l10Polynomial.f (l0 : List Int) : Option (List Int) := if isW l0 = true then some (polyV l0) else none
theorem spec_l10Polynomial.calls (A0 : Option Addr) (c0 : Nat) (l0 : List Int) (r : List Int) (w : World) (hr0 : Kd.C (Kd.int .i64) w A0 l0.length l0) (hc0 : l0.length ≤ c0) (h : spec_l10Polynomial.f l0 = some r) :
  Calls Try.prog 115 #[.slice A0 l0.length c0] w fun e w' => ∃ v0_ : Value, e = .returned v0_ ∧ Kd.R (Kd.int .i64) 2 w' w.heap.size (fun _ => True) v0_ r ∧ Below w.heap.size w w' := by
 unfold spec_l10Polynomial.f at h
 by_cases hk : isW l0 = true
 ·rw [if_pos hk] at h
  obtain rfl := Option.some.inj h
  exact poly_walk l0 A0 c0 _ ((isW_iff l0).1 hk) rfl hc0 w hr0
 ·rw [if_neg hk] at h; exact absurd h (by simp)

end Go.Proofs.Ytnlhhbnoccobmaa.F
