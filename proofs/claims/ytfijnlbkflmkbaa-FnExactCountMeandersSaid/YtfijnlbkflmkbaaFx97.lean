/- What impl_flatWords answers, and that the Go text comes to it: for every world in which the arguments read as told. -/
import Derived.Test.YtfijnlbkflmkbaaFgA
import Derived.Test.YtfijnlbkflmkbaaFgD
import Derived.Test.YtfijnlbkflmkbaaPureFlatW
import Derived.Test.YtfijnlbkflmkbaaPureMem
import Derived.Test.YtfijnlbkflmkbaaPureRows
namespace Go.Proofs.Ytfijnlbkflmkbaa.F
open Go.RowKit Go.Proofs.YtfijnlbkflmkbaaW.PrintWords Go.Proofs.YtfijnlbkflmkbaaW.PrintLast Go.Proofs.YtfijnlbkflmkbaaW.PrintMore
attribute [local go_sem] max2_int min2_int max_two min_two max_three min_three max_four min_four   -- for this text's walks alone
set_option linter.unusedVariables false
set_option linter.unusedSimpArgs false

/-! ### impl_flatWords: function 97 (by hand) -/
open Go.Proofs.Ytfijnlbkflmkbaa.Pure Go.Proofs.Ytfijnlbkflmkbaa.Mem
theorem flatMap_len {α β : Type} (g : α → List β) (B : Nat) : ∀ l : List α, (∀ x ∈ l, (g x).length ≤ B) → (l.flatMap g).length ≤ l.length * B
 | [], _ => by simp
 | x :: l, h => by
  rw [List.flatMap_cons, List.length_append, List.length_cons, Nat.succ_mul]
  have h1 := h x List.mem_cons_self
  have h2 := flatMap_len g B l (fun y hy => h y (List.mem_cons_of_mem _ hy))
  omega
/-- What one inner word gives, and what stands behind some of the loop's rounds. -/
def fpart (L : List (List Int)) (a : List Int) : List (List Int) := L.map fun b => fjoin a b
def fpart1 (f n k : Nat) : List (List Int) := (List.range k).flatMap fun k => (flatF f k).flatMap fun a => fpart (flatF f (n - k)) a
theorem fpart1_succ (f n k : Nat) : fpart1 f n (k + 1) = fpart1 f n k ++ (flatF f k).flatMap fun a => fpart (flatF f (n - k)) a := by
 unfold fpart1; rw [List.range_succ, List.flatMap_append]; simp
theorem flatF_succ (f n : Nat) : flatF (f + 1) (n + 1) = fpart1 f n (n + 1) := rfl
theorem take_flat {α β : Type} (g : α → List β) (l : List α) (i : Nat) (h : i < l.length) (d : α) : (l.take (i + 1)).flatMap g = (l.take i).flatMap g ++ g (l.getD i d) := by
 rw [List.take_succ_eq_append_getElem h, List.flatMap_append, List.getD_eq_getElem?_getD, List.getElem?_eq_getElem h]; simp
theorem take_map {α β : Type} (g : α → β) (l : List α) (i : Nat) (h : i < l.length) (d : α) : (l.take (i + 1)).map g = (l.take i).map g ++ [g (l.getD i d)] := by
 rw [List.take_succ_eq_append_getElem h, List.map_append, List.getD_eq_getElem?_getD, List.getElem?_eq_getElem h]; simp
theorem fpart1_len {f n k : Nat} (hn : n ≤ 5) (hf : n < f) (hk : k ≤ n + 1) : (fpart1 f n k).length ≤ 104544 := by
 have h := flatMap_len (fun k => (flatF f k).flatMap fun a => fpart (flatF f (n - k)) a) 17424 (List.range k) (fun x hx => by
  have hx := List.mem_range.1 hx
  have h1 := (flat_fine (n := x) (f := f) (by omega) (by omega)).1
  have h2 := (flat_fine (n := n - x) (f := f) (by omega) (by omega)).1
  have h3 := flatMap_len (fun a => fpart (flatF f (n - x)) a) 132 (flatF f x) (fun a _ => by unfold fpart; rw [List.length_map]; exact h2)
  have h4 : (flatF f x).length * 132 ≤ 132 * 132 := Nat.mul_le_mul_right _ h1
  omega)
 rw [List.length_range] at h
 have h5 : k * 17424 ≤ 6 * 17424 := Nat.mul_le_mul_right _ (by omega)
 unfold fpart1
 omega
/-- Three rows one behind the other. -/
theorem C_three {e : Nat} {w : World} {B t : Nat} {x y z : List Int} {Ax Ay Az : Option Addr} {cx cy cz : Nat} (hb : w.heap[B]? = some (.cells #[.slice Ax x.length cx, .slice Ay y.length cy, .slice Az z.length cz] t (0, 0)))
  (h1 : Kd.C (Kd.int .i64) w Ax x.length x) (h2 : Kd.C (Kd.int .i64) w Ay y.length y) (h3 : Kd.C (Kd.int .i64) w Az z.length z) (l1 : x.length ≤ cx) (l2 : y.length ≤ cy) (l3 : z.length ≤ cz) : Kd.C (Kd.slice e (Kd.int .i64)) w (some ⟨B, 0, none⟩) 3 [x, y, z] := by
 have hc : ∀ (j : Nat) (u : Value), [Value.slice Ax x.length cx, .slice Ay y.length cy, .slice Az z.length cz][j]? = some u → w.cell? ((⟨B, 0, none⟩ : Addr).add j) = some u := fun j u hu => World.news_of_block hb j u hu
 refine ⟨rfl, by decide, fun _ => ⟨_, rfl, fun j p hj => ?_⟩⟩
 match j, hj with
 | 0, hj =>
  obtain rfl : x = p := by simpa using hj
  exact ⟨[_], rfl, ⟨Ax, cx, rfl, l1, h1⟩, fun i u hu => by
   cases i with
   | zero => exact hc 0 u (by simpa using hu)
   | succ i => simp at hu⟩
 | 1, hj =>
  obtain rfl : y = p := by simpa using hj
  exact ⟨[_], rfl, ⟨Ay, cy, rfl, l2, h2⟩, fun i u hu => by
   cases i with
   | zero => exact hc 1 u (by simpa using hu)
   | succ i => simp at hu⟩
 | 2, hj =>
  obtain rfl : z = p := by simpa using hj
  exact ⟨[_], rfl, ⟨Az, cz, rfl, l3, h3⟩, fun i u hu => by
   cases i with
   | zero => exact hc 2 u (by simpa using hu)
   | succ i => simp at hu⟩
 | j + 3, hj => simp at hj
theorem info_rowsf : (Try.prog.info? 22).map (fun i => (i.zero, i.size, i.bytes)) = some (some (.slice none 0 0), 1, 24) := by kernel_rfl
set_option maxHeartbeats 4000000 in
set_option maxRecDepth 100000 in
theorem flat_walk : ∀ (f n : Nat), n < f → n ≤ 6 → ∀ w : World, Calls Try.prog 97 #[.int .i64 (n : Int)] w fun e w' => ∃ v0_ : Value, e = .returned v0_ ∧ Kd.N (Kd.slice 2 (Kd.int .i64)) 22 w' w.heap.size (fun k_ => w.heap.size ≤ k_) v0_ (flatF f n) ∧ Below w.heap.size w w' := by
 intro f
 induction f with
 | zero => intro n h; omega
 | succ f ih =>
  intro n hnf hn6 w
  cases n with
  | zero =>
   go_enter Try.func97, Try.ntmps97
   go_wp2_with (first | ((with_reducible refine gate_dst (N := 11) rfl ?_); refine Kd.N_lit (Kd.slice 2 (Kd.int .i64)) (w0 := w) w.heap.size 22 ?hg (N' := 11) ?hd (xs := [([] : List Int)]) (inner := [.slice none 0 0]) (ok := fun k => w.heap.size ≤ k) (okp := fun _ => False) ?hr ?hp (fun _ hk => hk.elim) (Nat.le_refl _) (Below.refl _ _) (Nat.le_refl _) (by simp) ?_; (case hd => rfl); (case hg => rfl); (case hr => first | (go_simp; done) | (go_simp; rfl)); (case hp => exact (Reps.one (show Kd.FK (Kd.slice 2 (Kd.int .i64)) _ _ ([] : List Int) [.slice none 0 0] from Kd.FK_slice_mk (Nat.le_refl _) (Kd.F_nil _ _ _)) (Reps.none _ _))); intro v12 w12 ho12 hb12 hg_ hnew_; have HO0 := Aside0.mk ho12; have HB0 := Aside0.mk hb12; clear ho12 hb12 hg_ hnew_))
   go_ret
   exact ⟨_, rfl, HO0.out, HB0.out⟩
  | succ n =>
   have HIH := Aside0.mk ih
   have HNF := Aside0.mk hnf
   have t0 : (((n + 1 : Nat) : Int) == 0) = false := by simp; omega
   have t00 : decide (((n + 1 : Nat) : Int) = 0) = false := decide_eq_false (by omega)
   obtain ⟨N, hN⟩ : ∃ N, N = n + 1 := ⟨_, rfl⟩
   have HN := Aside0.mk hN
   rw [← hN] at t0 t00 hn6 ⊢
   clear ih hnf hN
   go_enter Try.func97, Try.ntmps97
   have HN6 := Aside0.mk hn6
   go_wp2_with (first | ((with_reducible refine gate_dst (N := 12) rfl ?_); refine Kd.N_lit (Kd.slice 2 (Kd.int .i64)) (w0 := w) w.heap.size 22 ?hg (N' := 12) ?hd (xs := ([] : List (List Int))) (inner := []) (ok := fun k => w.heap.size ≤ k) (okp := fun _ => False) ?hr ?hp (fun _ hk => hk.elim) (Nat.le_refl _) (Below.refl _ _) (Nat.le_refl _) (by simp) ?_; (case hd => rfl); (case hg => rfl); (case hr => first | (go_simp; done) | (go_simp; rfl)); (case hp => exact (Reps.none _ _)); intro v12 w12 ho12 hb12 hg_ hnew_; have HO0 := Aside0.mk ho12; have HB0 := Aside0.mk hb12; clear ho12 hb12 hg_ hnew_))
   go_loopw [3, 14] (fun s3 s14 wr => ∃ (k : Nat) (v3 : Value), s3 = v3 ∧ s14 = .int .i64 (k : Int) ∧ Aside0 (k ≤ N) ∧ Aside0 (Kd.N (Kd.slice 2 (Kd.int .i64)) 22 wr w.heap.size (fun q => w.heap.size ≤ q) v3 (fpart1 f n k)) ∧ Aside0 (Below w.heap.size w wr))
    (fun _ s14 _ => N - (intOf s14).toNat)
   case atStart => exact ⟨0, _, rfl, rfl, ⟨Nat.zero_le _⟩, HO0, HB0⟩
   case round =>
    clear HO0 HB0
    obtain ⟨k, v3, rfl, rfl, HK, HO, HB⟩ := hrel
    by_cases hlt : k < N
    ·have t1 : decide ((k : Int) < (N : Int)) = true := decide_eq_true (by omega)
     have t2 : decide (k < N) = true := decide_eq_true hlt
     have HLT := Aside0.mk hlt
     go_wp2_with fail
     refine (HIH.out k (by have := HNF.out; have := HN.out; omega) (by have := HN6.out; omega) _).mono ?_
     rintro e w2 ⟨v2, rfl, hN2, hb2⟩
     obtain ⟨A1, c1, rfl⟩ := Kd.N_slice hN2
     have hl1 := trivial
     have hf1 := Kd.N_F hN2
     clear hN2
     obtain ⟨L1, hL1⟩ : ∃ L1, L1 = flatF f k := ⟨_, rfl⟩
     have HL1 := Aside0.mk hL1
     have HF1 := Aside0.mk (Kd.F_mono (ok' := fun q => w.heap.size ≤ q ∧ some q ≠ u3.ownBlock) (by rw [← hL1] at hf1; exact hf1) (fun q hq => ⟨Nat.le_trans HB.out.size hq, fun e => by have := Kd.N_lt HO.out q e.symm; omega⟩))
     have HO2 := Aside0.mk (Kd.N_below HO.out hb2)
     have HB2 := Aside0.mk (below_step HB.out hb2)
     have hl132 := (flat_fine (n := k) (f := f) (by have := HN6.out; omega) (by have := HNF.out; have := HN.out; omega)).1
     rw [← hL1] at hl132
     rw [← hL1]
     clear hL1 hl1 hf1 hb2 HO HB
     have HK3 := Aside0.mk (show (N : Int) - 1 - k = ((n - k : Nat) : Int) from by have := HN.out; have := HLT.out; omega)
     go_wp2_with fail
     go_loopw [3, 20] (fun s3 s20 wr => ∃ (i : Nat) (v3 : Value), s3 = v3 ∧ s20 = .int .i64 (i : Int) ∧ Aside0 (i ≤ L1.length) ∧ Aside0 (Kd.N (Kd.slice 2 (Kd.int .i64)) 22 wr w.heap.size (fun q => w.heap.size ≤ q) v3 (fpart1 f n k ++ (L1.take i).flatMap fun a => fpart (flatF f (n - k)) a)) ∧ Aside0 (Kd.F (Kd.slice 2 (Kd.int .i64)) wr (fun q => w.heap.size ≤ q ∧ some q ≠ v3.ownBlock) A1 L1.length L1) ∧ Aside0 (Below w.heap.size w wr))
      (fun _ s20 _ => L1.length - (intOf s20).toNat)
     case atStart => exact ⟨0, _, rfl, rfl, ⟨Nat.zero_le _⟩, ⟨by simpa using HO2.out⟩, HF1, HB2⟩
     case round =>
      clear HO2 HF1 HB2
      obtain ⟨i, v3, rfl, rfl, HIL, HO, HF1, HB⟩ := hrel
      by_cases hi : i < L1.length
      ·have t3 : decide ((i : Int) < (L1.length : Int)) = true := decide_eq_true (by omega)
       have t4 : decide (i < L1.length) = true := decide_eq_true hi
       have HI := Aside0.mk hi
       obtain ⟨ad1, cs, rfl, hcl, hFK, hcc, _⟩ := Kd.F_get HF1.out [] (i : Int) (by omega) (by omega)
       rw [Int.toNat_natCast] at hFK hcc
       obtain ⟨a, ha⟩ : ∃ a, a = L1.getD i [] := ⟨_, rfl⟩
       rw [← ha] at hFK
       have HAE := Aside0.mk ha
       obtain ⟨Aa, ca, rfl, hal, hFa⟩ := Kd.FK_slice_open hFK
       have hrow := hcc 0 _ rfl
       rw [show (Kd.slice 2 (Kd.int .i64)).sz = 1 from rfl, Nat.mul_one, Nat.add_zero] at hrow
       have hpa := (flat_fine (n := k) (f := f) (by have := HN6.out; omega) (by have := HNF.out; have := HN.out; omega)).2 a (by rw [← HL1.out, ha, List.getD_eq_getElem?_getD, List.getElem?_eq_getElem hi]; exact List.getElem_mem _)
       have HPA := Aside0.mk hpa
       have HAL := Aside0.mk hal
       have HFA := Aside0.mk hFa
       clear hFK hcc hcl hal hFa ha hpa
       go_wp2_with fail
       refine calls_args (as' := #[.int .i64 ((n - k : Nat) : Int)]) (by rw [HK3.out]) ?_
       refine (HIH.out (n - k) (by have := HNF.out; have := HN.out; omega) (by have := HN6.out; have := HN.out; omega) _).mono ?_
       rintro e w4 ⟨v4, rfl, hN4, hb4⟩
       obtain ⟨A2, c2, rfl⟩ := Kd.N_slice hN4
       have hl2 := trivial
       have hf2 := Kd.N_F hN4
       clear hN4
       obtain ⟨L2, hL2⟩ : ∃ L2, L2 = flatF f (n - k) := ⟨_, rfl⟩
       have HL2 := Aside0.mk hL2
       have HF2 := Aside0.mk (Kd.F_mono (ok' := fun q => w.heap.size ≤ q ∧ some q ≠ u3.ownBlock) (by rw [← hL2] at hf2; exact hf2) (fun q hq => ⟨Nat.le_trans HB.out.size hq, fun e => by have := Kd.N_lt HO.out q e.symm; omega⟩))
       have HO4 := Aside0.mk (Kd.N_below HO.out hb4)
       have HF14 := Aside0.mk (Kd.F_below HF1.out hb4)
       have HFA4 := Aside0.mk (Kd.F_below HFA.out hb4)
       have HB4 := Aside0.mk (below_step HB.out hb4)
       have hl2132 := (flat_fine (n := n - k) (f := f) (by have := HN6.out; have := HN.out; omega) (by have := HNF.out; have := HN.out; omega)).1
       have HP1 := Aside0.mk (show (fpart1 f n k ++ (L1.take i).flatMap fun a => fpart (flatF f (n - k)) a).length ≤ 200000 from by
        have h1 := fpart1_len (f := f) (n := n) (k := k) (by have := HN6.out; have := HN.out; omega) (by have := HNF.out; omega) (by have := HLT.out; have := HN.out; omega)
        have h2 := flatMap_len (fun a => fpart (flatF f (n - k)) a) 132 (L1.take i) (fun a _ => by unfold fpart; rw [List.length_map]; exact hl2132)
        have h3 : (L1.take i).length * 132 ≤ 132 * 132 := Nat.mul_le_mul_right _ (by rw [List.length_take]; omega)
        rw [List.length_append]
        omega)
       rw [← hL2] at hl2132
       rw [← hL2]
       clear hL2 hl2 hf2 hb4 HO HB HF1 HFA hrow
       go_wp2_with fail
       go_loopw [3, 30] (fun s3 s30 wr => ∃ (j : Nat) (v3 : Value), s3 = v3 ∧ s30 = .int .i64 (j : Int) ∧ Aside0 (j ≤ L2.length) ∧ Aside0 (Kd.N (Kd.slice 2 (Kd.int .i64)) 22 wr w.heap.size (fun q => w.heap.size ≤ q) v3 ((fpart1 f n k ++ (L1.take i).flatMap fun a => fpart (flatF f (n - k)) a) ++ (L2.take j).map fun b => fjoin a b)) ∧ Aside0 (Kd.F (Kd.slice 2 (Kd.int .i64)) wr (fun q => w.heap.size ≤ q ∧ some q ≠ v3.ownBlock) (some ad1) L1.length L1) ∧ Aside0 (Kd.F (Kd.int .i64) wr (fun q => w.heap.size ≤ q ∧ some q ≠ v3.ownBlock) Aa a.length a) ∧ Aside0 (Kd.F (Kd.slice 2 (Kd.int .i64)) wr (fun q => w.heap.size ≤ q ∧ some q ≠ v3.ownBlock) A2 L2.length L2) ∧ Aside0 (Below w.heap.size w wr))
        (fun _ s30 _ => L2.length - (intOf s30).toNat)
       case atStart => exact ⟨0, _, rfl, rfl, ⟨Nat.zero_le _⟩, ⟨by simpa using HO4.out⟩, HF14, HFA4, HF2, HB4⟩
       case round =>
        clear HO4 HF14 HFA4 HF2 HB4
        obtain ⟨j, v3, rfl, rfl, HJL, HO, HF1, HFA, HF2, HB⟩ := hrel
        by_cases hj : j < L2.length
        ·have t5 : decide ((j : Int) < (L2.length : Int)) = true := decide_eq_true (by omega)
         have t6 : decide (j < L2.length) = true := decide_eq_true hj
         have HJ := Aside0.mk hj
         obtain ⟨ad2, cs2, rfl, hcl2, hFK2, hcc2, _⟩ := Kd.F_get HF2.out [] (j : Int) (by omega) (by omega)
         rw [Int.toNat_natCast] at hFK2 hcc2
         obtain ⟨b, hb⟩ : ∃ b, b = L2.getD j [] := ⟨_, rfl⟩
         rw [← hb] at hFK2
         have HBE := Aside0.mk hb
         obtain ⟨Ab, cb, rfl, hbl, hFb⟩ := Kd.FK_slice_open hFK2
         have hrow2 := hcc2 0 _ rfl
         rw [show (Kd.slice 2 (Kd.int .i64)).sz = 1 from rfl, Nat.mul_one, Nat.add_zero] at hrow2
         have hpb := (flat_fine (n := n - k) (f := f) (by have := HN6.out; have := HN.out; omega) (by have := HNF.out; have := HN.out; omega)).2 b (by rw [← HL2.out, hb, List.getD_eq_getElem?_getD, List.getElem?_eq_getElem hj]; exact List.getElem_mem _)
         have HPB := Aside0.mk hpb
         have HBL := Aside0.mk hbl
         have HFB := Aside0.mk hFb
         have hal12 : a.length ≤ 12 := by have := HPA.out.1; have := HN6.out; have := HLT.out; omega
         have hbl12 : b.length ≤ 12 := by have := HPB.out.1; have := HN6.out; have := HN.out; omega
         have HA12 := Aside0.mk hal12
         have HB12 := Aside0.mk hbl12
         obtain ⟨kj, hkj⟩ := Ev.rounds (join_ev (fhead a) b (by rw [fhead_len]; omega) hbl12 HPB.out.2)
         have HKJ := Aside0.mk hkj
         have HLN := Aside0.mk (show (fjoin a b).length ≤ 30 from by unfold fjoin; rw [List.length_append, List.length_map, fhead_len]; omega)
         clear hFK2 hcc2 hcl2 hbl hFb hb hpb hal12 hbl12 hkj
         have HLO := Aside0.mk (Kd.N_lt HO.out)
         go_wp2_with fail
         clear hrow2
         obtain ⟨w5, hw5⟩ : ∃ w5, w5 = ((wr.alloc (.cells #[.int .i64 (-1)] 2 (0, 0))).alloc (.cells #[.int .i64 (-1)] 2 (0, 0))).alloc (.cells #[.slice (some ⟨wr.heap.size, 0, none⟩) 1 1, .slice Aa a.length ca, .slice (some ⟨wr.heap.size + 1, 0, none⟩) 1 1] 22 (0, 0)) := ⟨_, rfl⟩
         rw [← hw5]
         have HB5 := Aside0.mk (show Below wr.heap.size wr w5 from by rw [hw5]; exact below_alloc (below_alloc (below_alloc (Below.refl _ _) _) _) _)
         have HC3 := Aside0.mk (show Kd.C (Kd.slice 2 (Kd.int .i64)) w5 (some ⟨wr.heap.size + 1 + 1, 0, none⟩) 3 [[-1], a, [-1]] from by
          refine C_three (t := 22) (x := [-1]) (z := [-1]) (cx := 1) (cz := 1) (cy := ca) (Ax := some ⟨wr.heap.size, 0, none⟩) (Az := some ⟨wr.heap.size + 1, 0, none⟩) (Ay := Aa) (by rw [hw5]; exact new_at (by simp)) (Kd.F_now (F_of_block (e := 2) (ok := fun _ => True) ?b1 rfl (by simp [maxLen]) trivial)) (Kd.F_now (Kd.F_below HFA.out HB5.out)) (Kd.F_now (F_of_block (e := 2) (ok := fun _ => True) ?b2 rfl (by simp [maxLen]) trivial)) (Nat.le_refl _) HAL.out (Nat.le_refl _)
          case b1 => rw [hw5]; exact blk_alloc (blk_alloc (new_at rfl) _) _
          case b2 => rw [hw5]; exact blk_alloc (new_at (by simp)) _)
         clear hw5
         refine (slices_Concat_int64_int64.calls (some ⟨wr.heap.size + 1 + 1, 0, none⟩) 3 [[-1], a, [-1]] (-1 :: (a ++ [-1])) w5 HC3.out (Nat.le_refl _) (by unfold slices_Concat_int64_int64.f; rw [if_pos ⟨by simp; have := HA12.out; omega, by simp⟩]; simp)).mono ?_
         rintro e w6 ⟨v6, rfl, ho6, hb6⟩
         obtain ⟨A6, c6, rfl, hl6, hC6⟩ := Kd.R_reads ho6
         have HL6 := Aside0.mk hl6
         have HC6 := Aside0.mk hC6
         have HB6 := Aside0.mk (below_step HB5.out hb6)
         clear ho6 hb6 hl6 hC6
         go_wp2_with fail
         refine calls_args (as' := #[.slice A6 (-1 :: (a ++ [-1])).length c6]) (by simp) ?_
         refine (impl_normal.calls A6 c6 (-1 :: (a ++ [-1])) (fhead a) _ HC6.out HL6.out (okL_head HA12.out HPA.out.2)).mono ?_
         rintro e w7 ⟨v7, rfl, ho7, hb7⟩
         obtain ⟨A7, c7, rfl, hl7, hC7⟩ := Kd.R_reads ho7
         have HL7 := Aside0.mk hl7
         have HC7 := Aside0.mk hC7
         have HB7 := Aside0.mk (below_step HB6.out hb7)
         clear ho7 hb7 hl7 hC7
         go_wp2_with fail
         refine (impl_join.calls kj A7 c7 (fhead a) Ab cb b (fjoin a b) _ HC7.out HL7.out (Kd.F_now (Kd.F_below HFB.out HB7.out)) HBL.out HKJ.out).mono ?_
         rintro e w8 ⟨v8, rfl, ho8, hb8⟩
         obtain ⟨A8, c8, rfl, hl8, _⟩ := Kd.R_reads ho8
         have HL8 := Aside0.mk hl8
         have HR8 := Aside0.mk (Kd.R_F (Kd.R_mono (ok' := fun q => w7.heap.size ≤ q) (Kd.R_bound ho8) (fun q hq => hq.2.1)))
         have HB8 := Aside0.mk (below_step HB7.out hb8)
         clear ho8 hb8 hl8
         go_wp2_with (first | (at_builtin; (refine Kd.N_append (Kd.slice 2 (Kd.int .i64)) (w0 := w) w.heap.size rfl (.tmp 34) (.tmp 43) 42 22 (.slice none 0 0) 24 rfl Try.underlying42 info_rowsf rfl (by decide) (by omega) u3 ((fpart1 f n k ++ (L1.take i).flatMap fun a => fpart (flatF f (n - k)) a) ++ (L2.take j).map fun b => fjoin a b) (fjoin a b) [.slice A8 (fjoin a b).length c8] (fun q => w.heap.size ≤ q) (fun q => w7.heap.size ≤ q) rfl rfl ?aP ?aK ?aF ?aO ?aB ?aS ?aL ?_; (case aP => exact Kd.FK_slice_mk HL8.out HR8.out); (case aO => exact Kd.N_below HO.out HB8.out); (case aK => exact fun q hq => ⟨Nat.le_trans HB.out.size (Nat.le_trans HB7.out.size hq), fun e => by have h1 := HLO.out q e.symm; have h2 := HB7.out.size; omega⟩); (case aF => exact fun q hq => Nat.le_trans HB.out.size (Nat.le_trans HB8.out.size hq)); (case aB => exact below_step HB.out HB8.out); (case aS => exact (below_step HB.out HB8.out).size); (case aL => have h1 := HP1.out; have h2 := HJ.out; rw [List.length_append, List.length_map, List.length_take]; omega); intro v9 w9 ho9 hb9 hg9 hat9; have HO9 := Aside0.mk ho9; have HB9 := Aside0.mk hb9; have HG9 := Aside0.mk hg9; have HAT9 := Aside0.mk hat9; clear ho9 hb9 hg9 hat9)))
         go_roundw
         case rel => exact ⟨j + 1, _, rfl, rfl, ⟨HJ.out⟩, ⟨by rw [take_map _ _ _ HJ.out [], ← HBE.out, ← List.append_assoc]; exact HO9.out⟩, ⟨Kd.F_after (Kd.F_below HF1.out HB8.out) HG9.out HAT9.out⟩, ⟨Kd.F_after (Kd.F_below HFA.out HB8.out) HG9.out HAT9.out⟩, ⟨Kd.F_after (Kd.F_below HF2.out HB8.out) HG9.out HAT9.out⟩, HB9⟩
         case measure => have := HJ.out; simp [intOf]; omega
        ·have t5 : decide ((j : Int) < (L2.length : Int)) = false := decide_eq_false (by omega)
         have t6 : decide (j < L2.length) = false := decide_eq_false hj
         have HJE := Aside0.mk (show j = L2.length from by have := HJL.out; omega)
         clear hj
         go_wp2
         go_roundw
         case rel => exact ⟨i + 1, _, rfl, rfl, ⟨HI.out⟩, ⟨by rw [take_flat _ _ _ HI.out [], ← HAE.out, ← List.append_assoc, ← HL2.out]; have h := HO.out; rw [HJE.out, List.take_of_length_le (Nat.le_refl _), ← HL2.out] at h; exact h⟩, HF1, HB⟩
         case measure => have := HI.out; simp [intOf]; omega
      ·have t3 : decide ((i : Int) < (L1.length : Int)) = false := decide_eq_false (by omega)
       have t4 : decide (i < L1.length) = false := decide_eq_false hi
       have HIE := Aside0.mk (show i = L1.length from by have := HIL.out; omega)
       clear hi
       go_wp2
       go_roundw
       case rel => exact ⟨k + 1, _, rfl, rfl, ⟨HLT.out⟩, ⟨by rw [fpart1_succ, ← HL1.out]; have h := HO.out; rw [HIE.out, List.take_of_length_le (Nat.le_refl _)] at h; exact h⟩, HB⟩
       case measure => have := HLT.out; simp [intOf]; omega
    ·have t1 : decide ((k : Int) < (N : Int)) = false := decide_eq_false (by omega)
     have t2 : decide (k < N) = false := decide_eq_false hlt
     have HKN := Aside0.mk (show k = n + 1 from by have := HK.out; have := HN.out; omega)
     clear hlt
     obtain ⟨Ao, co, rfl⟩ := Kd.N_slice HO.out
     go_wp2
     go_ret
     refine ⟨_, rfl, ?_, HB.out⟩
     rw [HN.out, flatF_succ, ← HKN.out]
     exact HO.out
def impl_flatWords.f (a0 : Int) : Option (List (List Int)) := if 0 ≤ a0 ∧ a0 ≤ 6 then some (flatF 7 a0.toNat) else none
theorem impl_flatWords.calls (a0 : Int) (r : List (List Int)) (w : World) (h : impl_flatWords.f a0 = some r) :
  Calls Try.prog 97 #[.int .i64 a0] w fun e w' => ∃ v0_ : Value, e = .returned v0_ ∧ Kd.N (Kd.slice 2 (Kd.int .i64)) 22 w' w.heap.size (fun k_ => (w.heap.size ≤ k_)) v0_ r ∧ Below w.heap.size w w' := by
 unfold impl_flatWords.f at h
 by_cases hc : 0 ≤ a0 ∧ a0 ≤ 6
 ·rw [if_pos hc] at h
  obtain ⟨n, rfl⟩ := Int.eq_ofNat_of_zero_le hc.1
  rw [Int.toNat_natCast] at h
  have := Option.some.inj h
  subst this
  exact flat_walk 7 n (by omega) (by omega) w
 ·rw [if_neg hc] at h; exact absurd h (by simp)

end Go.Proofs.Ytfijnlbkflmkbaa.F
