/- What impl_IsWeb answers, and that the Go text comes to it: for every world in which the arguments read as told. -/
import Derived.Test.YtnlhhbnoccobmaaFgA
import Derived.Test.YtnlhhbnoccobmaaFx96
import Derived.Test.YtnlhhbnoccobmaaFx99
import Derived.Test.YtnlhhbnoccobmaaPureWebMap
import Derived.Test.YtnlhhbnoccobmaaPureWebC
import Derived.Test.YtnlhhbnoccobmaaPureMem
import Derived.Test.YtnlhhbnoccobmaaPureRows
import Derived.Test.YtnlhhbnoccobmaaPureA
import Derived.Maps.RangeWalk
import Derived.Maps.GroupsBeside
import Derived.WalkSpells
import Derived.BigQuiet
import Derived.Deep.RegionWith
namespace Go.Proofs.Ytnlhhbnoccobmaa.F
open Go.RowKit Go.Proofs.YtnlhhbnoccobmaaW.PrintWords Go.Proofs.YtnlhhbnoccobmaaW.PrintLast Go.Proofs.YtnlhhbnoccobmaaW.PrintMore
attribute [local go_sem] max2_int min2_int max_two min_two max_three min_three max_four min_four   -- for this text's walks alone
set_option linter.unusedVariables false
set_option linter.unusedSimpArgs false

/-! ### impl_IsWeb: function 21 (by hand) -/
open Go.Proofs.Ytnlhhbnoccobmaa.Mem Go.Proofs.Ytnlhhbnoccobmaa.Web Go.Proofs.Ytnlhhbnoccobmaa.Pure Go.Maps
/-- Where the first true one stands; -1 without one. -/
def firstT : List Bool → Nat → Int
 | [], _ => -1
 | b :: l, i => if b = true then (i : Int) else firstT l (i + 1)
theorem firstT_ge : ∀ (l : List Bool) (i : Nat), decide (0 ≤ firstT l i) = l.any id
 | [], _ => rfl
 | b :: l, i => by
  rw [firstT, List.any_cons]
  cases b with
  | true => rw [if_pos rfl]; simp
  | false => rw [if_neg (by simp)]; simpa using firstT_ge l (i + 1)
theorem firstT_skip {l : List Bool} : ∀ x, x ≤ l.length → (l.take x).any id = false → firstT l 0 = firstT (l.drop x) x
 | 0, _, _ => rfl
 | x + 1, hx, h => by
  rw [List.take_succ_eq_append_getElem (by omega), List.any_append] at h
  simp only [Bool.or_eq_false_iff] at h
  rw [firstT_skip x (by omega) h.1, List.drop_eq_getElem_cons (by omega), firstT]
  have h2 := h.2
  simp only [List.any_cons, List.any_nil, Bool.or_false, id] at h2
  rw [if_neg (by rw [h2]; simp)]
set_option maxHeartbeats 2000000 in
set_option maxRecDepth 100000 in
theorem web_1 (A : Option Addr) (n c : Nat) (w : World) : Calls Try.prog 95 #[.slice A n c] w fun e w' => e = .returned (.bool (n != 3)) ∧ w' = w := by
 cases h : (n != 3) with
 | true =>
  have h3 : n ≠ 3 := by simpa using h
  have t1 : ((n : Int) == 3) = false := by simp; omega
  go_enter Try.func95, Try.ntmps95
  go_wp2
  go_ret
  exact ⟨by first | rfl | (simp; omega), rfl⟩
 | false =>
  have t1 : n = 3 := by simpa using h
  subst t1
  go_enter Try.func95, Try.ntmps95
  go_wp2
  go_ret
  exact ⟨by first | rfl | simp, rfl⟩
set_option maxHeartbeats 2000000 in
set_option maxRecDepth 100000 in
theorem web_IndexFunc (forks : List (List Int)) (hl : forks.length ≤ 1000) (A : Option Addr) (c : Nat) (w : World) (hr : Kd.C (Kd.slice 2 (Kd.int .i64)) w A forks.length forks) :
  Calls Try.prog 164 #[.slice A forks.length c, .func (.func 95) #[] #[]] w fun e w' => e = .returned (.int .i64 (firstT (forks.map fun f => f.length != 3) 0)) ∧ ∃ nd, w' = w.drewN nd := by
 have HR := Aside0.mk hr
 obtain ⟨n, hn⟩ : ∃ n, n = forks.length := ⟨_, rfl⟩
 rw [← hn]
 have HN := Aside0.mk hn
 have hr : Kd.C (Kd.slice 2 (Kd.int .i64)) w A n forks := by rw [hn]; exact hr
 have HRN := Aside0.mk hr
 obtain ⟨bs, hbs⟩ : ∃ bs, bs = forks.map fun f => f.length != 3 := ⟨_, rfl⟩
 have HBS := Aside0.mk hbs
 have hbl : bs.length = n := by rw [hbs, hn]; simp
 have HBL := Aside0.mk hbl
 rw [← hbs]
 have hn1 : n ≤ 1000 := by omega
 clear hr hbs hbl hn
 go_enter Try.func164, Try.ntmps164
 go_wp2
 go_loopw [8] (fun i wr => ∃ x : Nat, i = .int .i64 (x : Int) ∧ Aside0 (x ≤ n) ∧ Aside0 ((bs.take x).any id = false) ∧ ∃ nd, wr = w.drewN nd)
  (fun i _ => n - (intOf i).toNat)
 case atStart => exact ⟨0, rfl, ⟨Nat.zero_le _⟩, ⟨rfl⟩, 0, rfl⟩
 case round =>
  obtain ⟨x, rfl, HX, HA, nd, rfl⟩ := hrel
  by_cases hlt : x < n
  ·have t1 : decide ((x : Int) < (n : Int)) = true := decide_eq_true (by omega)
   have t2 : decide (x < n) = true := decide_eq_true hlt
   obtain ⟨ad, Aa, ca, ead, hrow, hca, _⟩ := row_of_C HRN.out x hlt
   subst ead
   obtain ⟨ln, hln⟩ : ∃ ln, ln = (forks.getD x []).length := ⟨_, rfl⟩
   rw [← hln] at hrow
   have hb : bs.getD x false = (ln != 3) := by
    rw [HBS.out, List.getD_eq_getElem?_getD, List.getElem?_map, List.getElem?_eq_getElem (by rw [← HN.out]; exact hlt), hln, List.getD_eq_getElem?_getD, List.getElem?_eq_getElem (by rw [← HN.out]; exact hlt)]; rfl
   have HD := Aside0.mk (show bs.drop x = (ln != 3) :: bs.drop (x + 1) from by
    rw [List.drop_eq_getElem_cons (by rw [HBL.out]; exact hlt), ← hb, List.getD_eq_getElem?_getD, List.getElem?_eq_getElem (by rw [HBL.out]; exact hlt)]; rfl)
   have HT := Aside0.mk (show bs.take (x + 1) = bs.take x ++ [ln != 3] from by
    rw [List.take_succ_eq_append_getElem (by rw [HBL.out]; exact hlt), ← hb, List.getD_eq_getElem?_getD, List.getElem?_eq_getElem (by rw [HBL.out]; exact hlt)]; rfl)
   have HLT := Aside0.mk hlt
   clear hln hb
   have hc := fun W => web_1 Aa ln ca W
   cases hv : (ln != 3) with
   | true =>
    have HV := Aside0.mk hv
    rw [hv] at hc
    have HCC := Aside0.mk hc
    clear hv hc
    go_wp2_with (first | (go_at_call 95; refine (HCC.out _).mono ?_; rintro e w2 ⟨rfl, rfl⟩))
    go_ret
    refine ⟨?_, _, rfl⟩
    rw [firstT_skip x (by rw [HBL.out]; exact HX.out) HA.out, HD.out, firstT, HV.out, if_pos rfl]
    rfl
   | false =>
    have HV := Aside0.mk hv
    rw [hv] at hc
    have HCC := Aside0.mk hc
    clear hv hc
    go_wp2_with (first | (go_at_call 95; refine (HCC.out _).mono ?_; rintro e w2 ⟨rfl, rfl⟩))
    go_roundw
    case rel => exact ⟨x + 1, (by first | rfl | exact congrArg _ (wS (by omega))), ⟨HLT.out⟩, ⟨by rw [HT.out, List.any_append, HA.out, HV.out]; rfl⟩, _, rfl⟩
    case measure => (try rw [wS (by omega)]); simp [intOf]; omega
  ·have t1 : decide ((x : Int) < (n : Int)) = false := decide_eq_false (by omega)
   have t2 : decide (x < n) = false := decide_eq_false hlt
   have HXE := Aside0.mk (show x = n from by have := HX.out; omega)
   clear hlt
   go_wp2
   go_ret
   refine ⟨?_, _, rfl⟩
   rw [firstT_skip x (by rw [HBL.out]; exact HX.out) HA.out, List.drop_of_length_le (by rw [HBL.out, HXE.out]; exact Nat.le_refl _)]
   rfl
set_option maxHeartbeats 2000000 in
set_option maxRecDepth 100000 in
theorem web_ContainsFunc (forks : List (List Int)) (hl : forks.length ≤ 1000) (A : Option Addr) (c : Nat) (w : World) (hr : Kd.C (Kd.slice 2 (Kd.int .i64)) w A forks.length forks) :
  Calls Try.prog 94 #[.slice A forks.length c, .func (.func 95) #[] #[]] w fun e w' => e = .returned (.bool ((forks.map fun f => f.length != 3).any id)) ∧ ∃ nd, w' = w.drewN nd := by
 have HI := Aside0.mk (firstT_ge (forks.map fun f => f.length != 3) 0)
 have HR := Aside0.mk hr
 have HL := Aside0.mk hl
 clear hr hl
 go_enter Try.func94, Try.ntmps94
 go_wp2_with (first | (go_at_call 164; refine (web_IndexFunc forks HL.out A c _ HR.out).mono ?_; rintro e w1 ⟨rfl, ⟨nd, rfl⟩⟩))
 go_ret
 exact ⟨by rw [← HI.out]; rfl, _, rfl⟩
set_option maxHeartbeats 2000000 in
set_option maxRecDepth 100000 in
theorem web_2 (x nl : Nat) (Bw : Nat) (v : Value) (Al : Option Addr) (cl : Nat) (w : World) (h : w.cell? ⟨Bw, 0, none⟩ = some (.slice Al nl cl)) : Calls Try.prog 100 #[.int .i64 (x : Int), .pointer (some ⟨Bw, 0, none⟩)] w fun e w' => e = .returned (.bool (decide (nl ≤ x))) ∧ w' = w := by
 have t1 : decide ((nl : Int) ≤ (x : Int)) = decide (nl ≤ x) := by rw [decide_eq_decide]; omega
 go_enter Try.func100, Try.ntmps100
 go_wp2
 go_ret
 exact ⟨by first | rfl | simp [t1], rfl⟩
set_option maxHeartbeats 2000000 in
set_option maxRecDepth 100000 in
theorem web_IndexFunc2 (l : List Nat) (hl : l.length ≤ 1000) (A : Option Addr) (c nl Bw : Nat) (Al : Option Addr) (cl : Nat) (w : World) (hr : Kd.C (Kd.int .i64) w A (ints l).length (ints l)) (h1 : w.cell? ⟨Bw, 0, none⟩ = some (.slice Al nl cl)) :
  Calls Try.prog 165 #[.slice A (ints l).length c, .func (.func 100) #[] #[.pointer (some ⟨Bw, 0, none⟩)]] w fun e w' => e = .returned (.int .i64 (firstT (l.map fun x => decide (nl ≤ x)) 0)) ∧ ∃ nd, w' = w.drewN nd := by
 obtain ⟨n, hn⟩ : ∃ n, n = l.length := ⟨_, rfl⟩
 rw [ints_len, ← hn] at hr
 rw [ints_len, ← hn]
 have HRN := Aside0.mk hr
 have HN := Aside0.mk hn
 have H1 := Aside0.mk h1
 obtain ⟨bs, hbs⟩ : ∃ bs, bs = l.map fun x => decide (nl ≤ x) := ⟨_, rfl⟩
 have HBS := Aside0.mk hbs
 have hbl : bs.length = n := by rw [hbs, hn]; simp
 have HBL := Aside0.mk hbl
 rw [← hbs]
 have hn1 : n ≤ 1000 := by omega
 clear hr hbs hbl hn h1
 go_enter Try.func165, Try.ntmps165
 go_wp2
 go_loopw [8] (fun i wr => ∃ x : Nat, i = .int .i64 (x : Int) ∧ Aside0 (x ≤ n) ∧ Aside0 ((bs.take x).any id = false) ∧ ∃ nd, wr = w.drewN nd)
  (fun i _ => n - (intOf i).toNat)
 case atStart => exact ⟨0, rfl, ⟨Nat.zero_le _⟩, ⟨rfl⟩, 0, rfl⟩
 case round =>
  obtain ⟨x, rfl, HX, HA, nd, rfl⟩ := hrel
  by_cases hlt : x < n
  ·have t1 : decide ((x : Int) < (n : Int)) = true := decide_eq_true (by omega)
   have t2 : decide (x < n) = true := decide_eq_true hlt
   obtain ⟨ad, ead, hcell⟩ := cell_of_C HRN.out x hlt
   subst ead
   rw [ints_getD l x (by rw [← HN.out]; exact hlt)] at hcell
   obtain ⟨y, hy⟩ : ∃ y, y = l.getD x 0 := ⟨_, rfl⟩
   rw [← hy] at hcell
   have hb : bs.getD x false = decide (nl ≤ y) := by
    rw [HBS.out, List.getD_eq_getElem?_getD, List.getElem?_map, List.getElem?_eq_getElem (by rw [← HN.out]; exact hlt), hy, List.getD_eq_getElem?_getD, List.getElem?_eq_getElem (by rw [← HN.out]; exact hlt)]; rfl
   have HD := Aside0.mk (show bs.drop x = decide (nl ≤ y) :: bs.drop (x + 1) from by
    rw [List.drop_eq_getElem_cons (by rw [HBL.out]; exact hlt), ← hb, List.getD_eq_getElem?_getD, List.getElem?_eq_getElem (by rw [HBL.out]; exact hlt)]; rfl)
   have HT := Aside0.mk (show bs.take (x + 1) = bs.take x ++ [decide (nl ≤ y)] from by
    rw [List.take_succ_eq_append_getElem (by rw [HBL.out]; exact hlt), ← hb, List.getD_eq_getElem?_getD, List.getElem?_eq_getElem (by rw [HBL.out]; exact hlt)]; rfl)
   have HLT := Aside0.mk hlt
   clear hy hb
   have hc := fun nd => web_2 y nl Bw undef Al cl (w.drewN nd) H1.out
   cases hv : decide (nl ≤ y) with
   | true =>
    have HV := Aside0.mk hv
    rw [hv] at hc
    have HCC := Aside0.mk hc
    clear hv hc
    go_wp2_with (first | (go_at_call 100; refine (HCC.out _).mono ?_; rintro e w2 ⟨rfl, rfl⟩))
    go_ret
    refine ⟨?_, _, rfl⟩
    rw [firstT_skip x (by rw [HBL.out]; exact HX.out) HA.out, HD.out, firstT, HV.out, if_pos rfl]
    rfl
   | false =>
    have HV := Aside0.mk hv
    rw [hv] at hc
    have HCC := Aside0.mk hc
    clear hv hc
    go_wp2_with (first | (go_at_call 100; refine (HCC.out _).mono ?_; rintro e w2 ⟨rfl, rfl⟩))
    go_roundw
    case rel => exact ⟨x + 1, (by first | rfl | exact congrArg _ (wS (by omega))), ⟨HLT.out⟩, ⟨by rw [HT.out, List.any_append, HA.out, HV.out]; rfl⟩, _, rfl⟩
    case measure => (try rw [wS (by omega)]); simp [intOf]; omega
  ·have t1 : decide ((x : Int) < (n : Int)) = false := decide_eq_false (by omega)
   have t2 : decide (x < n) = false := decide_eq_false hlt
   have HXE := Aside0.mk (show x = n from by have := HX.out; omega)
   clear hlt
   go_wp2
   go_ret
   refine ⟨?_, _, rfl⟩
   rw [firstT_skip x (by rw [HBL.out]; exact HX.out) HA.out, List.drop_of_length_le (by rw [HBL.out, HXE.out]; exact Nat.le_refl _)]
   rfl
set_option maxHeartbeats 2000000 in
set_option maxRecDepth 100000 in
theorem web_ContainsFunc2 (l : List Nat) (hl : l.length ≤ 1000) (A : Option Addr) (c nl Bw : Nat) (Al : Option Addr) (cl : Nat) (w : World) (hr : Kd.C (Kd.int .i64) w A (ints l).length (ints l)) (h1 : w.cell? ⟨Bw, 0, none⟩ = some (.slice Al nl cl)) :
  Calls Try.prog 98 #[.slice A (ints l).length c, .func (.func 100) #[] #[.pointer (some ⟨Bw, 0, none⟩)]] w fun e w' => e = .returned (.bool ((l.map fun x => decide (nl ≤ x)).any id)) ∧ ∃ nd, w' = w.drewN nd := by
 have HI := Aside0.mk (firstT_ge (l.map fun x => decide (nl ≤ x)) 0)
 have HR := Aside0.mk hr
 have HL := Aside0.mk hl
 have H1 := Aside0.mk h1
 clear hr hl h1
 go_enter Try.func98, Try.ntmps98
 go_wp2_with (first | (go_at_call 165; refine (web_IndexFunc2 l HL.out A c nl Bw Al cl _ HR.out H1.out).mono ?_; rintro e w1 ⟨rfl, ⟨nd, rfl⟩⟩))
 go_ret
 exact ⟨by rw [← HI.out]; rfl, _, rfl⟩
/-- What the program says of webs: where all numbers of edges fit. -/
def wfW (legs : List Int) (forks : List (List Int)) : Bool := (inc legs forks).all fun p => (Lit.int .i64 p.1).wf
def impl_IsWeb.f (l0_0 : List Int) (l0_1 : List (List Int)) : Option Bool := if l0_0.length ≤ 17592186044416 ∧ l0_1.length ≤ 17592186044416 ∧ wfW l0_0 l0_1 = true then some (isWebC l0_0 l0_1) else none
theorem any_len (forks : List (List Int)) : (forks.map fun f => f.length != 3).any id = !(forks.all fun f => f.length == 3) := by
 induction forks with
 | nil => rfl
 | cons f F ih =>
  rw [List.map_cons, List.any_cons, ih, List.all_cons]
  show ((f.length != 3) || _) = _
  cases h : (f.length == 3) <;> simp [h, bne]
theorem any_root (n nl : Nat) (r : Nat → Nat) : (((List.range n).map r).map fun x => decide (nl ≤ x)).any id = !((List.range n).all fun v => decide (r v < nl)) := by
 induction List.range n with
 | nil => rfl
 | cons f F ih =>
  rw [List.map_cons, List.map_cons, List.any_cons, ih, List.all_cons]
  show (decide (nl ≤ r f) || _) = _
  by_cases h : r f < nl
  ·rw [decide_eq_true h, decide_eq_false (by omega)]; simp
  ·rw [decide_eq_false h, decide_eq_true (by omega)]; simp
set_option maxHeartbeats 4000000 in
set_option maxRecDepth 100000 in
theorem isWeb_walk (legs : List Int) (forks : List (List Int)) (Al : Option Addr) (cl : Nat) (Af : Option Addr) (cf : Nat) (h1 : legs.length ≤ 17592186044416) (h2 : forks.length ≤ 17592186044416) (hwf : ∀ p ∈ inc legs forks, (Lit.int .i64 p.1).wf = true) (w : World)
  (hl : Kd.C (Kd.int .i64) w Al legs.length legs) (hf : Kd.C (Kd.slice 2 (Kd.int .i64)) w Af forks.length forks) :
  Calls Try.prog 21 #[.agg #[.slice Al legs.length cl, .slice Af forks.length cf]] w fun e w' => e = .returned (.bool (isWebB legs forks)) ∧ Below w.heap.size w w' := by
 obtain ⟨N, hN⟩ : ∃ N, N = legs.length + forks.length := ⟨_, rfl⟩
 obtain ⟨I, hI⟩ : ∃ I, I = inc legs forks := ⟨_, rfl⟩
 obtain ⟨res, hres⟩ : ∃ res, res = isWebB legs forks := ⟨_, rfl⟩
 rw [← hres]
 have HRES := Aside0.mk hres
 unfold isWebB at hres
 have HBK := Aside0.mk (show (w.alloc (.cells #[.slice Al legs.length cl, .slice Af forks.length cf] 28)).heap[w.heap.size]? = some (.cells #[.slice Al legs.length cl, .slice Af forks.length cf] 28 (0, 0)) from new_at rfl)
 have HB1 := Aside0.mk (show Below w.heap.size w (w.alloc (.cells #[.slice Al legs.length cl, .slice Af forks.length cf] 28)) from below_alloc (Below.refl _ _) _)
 have c1 : (w.alloc (.cells #[.slice Al legs.length cl, .slice Af forks.length cf] 28)).cell? ⟨w.heap.size, 1, none⟩ = some (.slice Af forks.length cf) := (blk_cell HBK.out 1).trans rfl
 have HL := Aside0.mk hl
 have HF := Aside0.mk hf
 have HH1 := Aside0.mk h1
 have HH2 := Aside0.mk h2
 have HWF := Aside0.mk hwf
 have HN := Aside0.mk hN
 have HI := Aside0.mk hI
 by_cases h8 : 8 < N
 ·have t1 : decide ((8 : Int) < (N : Int)) = true := decide_eq_true (by omega)
  have t2 : decide (8 < N) = true := decide_eq_true h8
  have HE := Aside0.mk (show res = false from by rw [hres, decide_eq_false (by omega)]; rfl)
  clear hl hf h1 h2 hwf hN hI hres c1
  go_enter Try.func21, Try.ntmps21
  go_wp2_with (first
   | (go_at_call 93; refine (nodes_walk legs.length forks.length w.heap.size Al cl Af cf (by have := HH1.out; have := HH2.out; omega) _ HBK.out).mono ?_; rintro e w1 ⟨rfl, ⟨nd, rfl⟩⟩; rw [← HN.out]))
  go_ret
  exact ⟨by rw [HE.out]; rfl, pw_below_drewN HB1.out _⟩
 ·have t1 : decide ((8 : Int) < (N : Int)) = false := decide_eq_false (by omega)
  have t2 : decide (8 < N) = false := decide_eq_false h8
  have H8 := Aside0.mk (show N ≤ 8 from by omega)
  rw [decide_eq_true (show legs.length + forks.length ≤ 8 from by omega), Bool.true_and] at hres
  cases ha : (forks.all fun f => f.length == 3) with
  | false =>
   rw [ha, Bool.false_and, Bool.false_and] at hres
   have HA := Aside0.mk ha
   have HE := Aside0.mk hres
   clear hl hf h1 h2 hwf hN hI hres ha
   go_enter Try.func21, Try.ntmps21
   go_wp2_with (first
    | (go_at_call 93; refine (nodes_walk legs.length forks.length w.heap.size Al cl Af cf (by have := H8.out; have := HN.out; omega) _ HBK.out).mono ?_; rintro e w1 ⟨rfl, ⟨nd, rfl⟩⟩; rw [← HN.out])
    | (go_at_call 94; refine (web_ContainsFunc forks (by have := H8.out; have := HN.out; omega) Af cf _ (Kd.C_drewN (Kd.C_below HF.out HB1.out) _)).mono ?_; rw [any_len, HA.out]; rintro e w1 ⟨rfl, ⟨nd2, rfl⟩⟩))
   go_ret
   exact ⟨by rw [HE.out]; rfl, pw_below_drewN HB1.out _⟩
  | true =>
   rw [ha, Bool.true_and] at hres
   have HA := Aside0.mk ha
   have H3 := Aside0.mk (show ∀ f ∈ forks, f.length = 3 from fun f hf => eq_of_beq (List.all_eq_true.1 ha f hf))
   have HE := Aside0.mk hres
   clear hl hf h1 h2 hwf hN hI hres ha
   go_enter Try.func21, Try.ntmps21
   go_wp2_with (first
    | (go_at_call 93; refine (nodes_walk legs.length forks.length w.heap.size Al cl Af cf (by have := H8.out; have := HN.out; omega) _ HBK.out).mono ?_; rintro e w1 ⟨rfl, ⟨nd, rfl⟩⟩; rw [← HN.out])
    | (go_at_call 94; refine (web_ContainsFunc forks (by have := H8.out; have := HN.out; omega) Af cf _ (Kd.C_drewN (Kd.C_below HF.out HB1.out) _)).mono ?_; rw [any_len, HA.out]; rintro e w1 ⟨rfl, ⟨nd2, rfl⟩⟩)
    | (go_at_call 96; refine (stands_walk legs forks w.heap.size Al cl Af cf (by have := H8.out; have := HN.out; omega) H3.out HWF.out _ (blk_drewN HBK.out _) (Kd.C_drewN (Kd.C_below HL.out HB1.out) _) (Kd.C_drewN (Kd.C_below HF.out HB1.out) _)).mono ?_; rintro e w1 ⟨rfl, hgr1, hb1⟩; have hb2 := below_step (pw_below_drewN HB1.out _) hb1; generalize hM : (World.drewN _ _).heap.size = Bm at hgr1 ⊢; have HBM := Aside0.mk hM; have HGR := Aside0.mk hgr1; have HBB := Aside0.mk hb2; have hs1 := hb1.size; have HBS := Aside0.mk hb1; clear hgr1 hb1 hb2 hM hs1)
    | (at_range; refine wpList_range_own _ rfl _ 81 rfl 2 83 webKey Try.underlying81 _ _ (inc legs forks).length _ rfl (groups_own HGR.out) ?_; intro w2 hrg2 hg2 hs2)
    | go_in)
   go_frame
   rw [← HI.out] at hrg2
   have HRG2 := Aside0.mk hrg2
   have HG2 := Aside0.mk hg2
   have HL2 : Aside0 (∀ e, Maps.has (GTo I I.length) (keyL e) = ((!(ends I e).isEmpty) && !([] : List Int).contains e)) := ⟨fun e => by
    have h := GTo_has I e I.length (Nat.le_refl _)
    rw [List.take_length] at h
    rw [h]; simp⟩
   have HBK1 := Aside0.mk (blk_below (blk_drewN HBK.out _) HBS.out)
   have HLEN := Aside0.mk (show I.length ≤ 24 from by rw [HI.out, inc_len H3.out]; have := H8.out; have := HN.out; omega)
   clear hrg2 hg2 hs2
   go_loopw [3] (fun _ wr => ∃ (left : Lit → Bool) (cnt : Nat) (L : List Int), Aside0 (wr.ranges Try.prog 2 (rowElem (H := Unit) w1 (Bm + 1) 3 .i64) Bm w1.heap.size I.length (GTo I I.length) left cnt) ∧ Aside0 (∀ e, left (keyL e) = ((!(ends I e).isEmpty) && !L.contains e)) ∧ Aside0 (∀ e ∈ L, (0 ≤ e ∧ e ≤ 1000) ∧ (ends I e).length = 2) ∧ Aside0 (w1.grownBy wr none))
    (fun _ wr => wr.rangeLeft Bm w1.heap.size)
   case atStart => exact ⟨_, _, [], HRG2, HL2, ⟨by simp⟩, HG2⟩
   case round =>
    clear HRG2 HL2 HG2
    obtain ⟨left, cnt, L, HRG, HLE, HLI, HG⟩ := hrel
    go_wp2_with (first
     | (at_next; refine wpList_next_ranges (α := Int) (β := Value) _ rfl _ rfl 2 webKey (rowElem (H := Unit) w1 (Bm + 1) 3 .i64) (Value.int .i64) id (fun key kl h => inv_key h) (fun v y _ => ⟨v, rfl⟩) Bm w1.heap.size I.length (GTo I I.length) left cnt rfl HRG.out ?_ ?_)
     | go_in)
    ·intro hc0 hl0
     have htw : twiceB legs forks = true := by
      unfold twiceB
      rw [← HI.out, List.all_eq_true]
      intro p hp
      have h := HLE.out p.1
      rw [hl0] at h
      have hu := mem_ends.2 (show (p.1, p.2) ∈ I from hp)
      have hc : L.contains p.1 = true := by
       cases hc : L.contains p.1 with
       | true => rfl
       | false =>
        rw [hc] at h
        cases hh : ends I p.1 with
        | nil => rw [hh] at hu; exact absurd hu (by simp)
        | cons _ _ => rw [hh] at h; simp at h
      have := HLI.out p.1 (List.contains_iff_mem.1 hc)
      rw [decide_eq_true this.1, this.2]; rfl
     have hb := below_step HBB.out (grown_below HG.out)
     have hres : res = rootedB legs forks := by rw [HE.out, htw, Bool.true_and]
     have HRS := Aside0.mk hres
     have HTW := Aside0.mk (twice_two htw)
     have HBR := Aside0.mk hb
     have HBKR := Aside0.mk (blk_grown HBK1.out HG.out (by simp))
     have hmf : ∀ (fn : Fn) (first cap : Array Value) (w : World), (Instr.makeFunc fn first cap).run Try.prog w = .ok (.func fn first cap) w := fun _ _ _ _ => rfl
     clear htw hb hres hl0 hc0
     go_wp2_with (first
      | (go_at_call 99; refine (partsOf_walk legs forks N w.heap.size Al cl Af cf HN.out H8.out H3.out HWF.out (by rw [HN.out]; exact HTW.out) _ HBKR.out (Kd.C_below HL.out HBR.out) (Kd.C_below HF.out HBR.out)).mono ?_; rintro e w5 ⟨v5, rfl, ho5, hb5⟩; obtain ⟨A5, c5, rfl, hl5, hC5⟩ := Kd.R_reads ho5; have HC5 := Aside0.mk hC5; have HB5 := Aside0.mk hb5; have HBK5 := Aside0.mk (blk_below HBKR.out hb5); clear ho5 hb5 hl5 hC5)
      | (go_at_call 98; refine (web_ContainsFunc2 ((List.range N).map (lbl (inc legs forks))) (by have := H8.out; simp; omega) A5 c5 legs.length w.heap.size Al cl _ HC5.out ((blk_cell HBK5.out 0).trans rfl)).mono ?_; rw [any_root]; rintro e w6 ⟨rfl, ⟨nd6, rfl⟩⟩))
     go_ret
     refine ⟨?_, pw_below_drewN (below_step HBR.out HB5.out) _⟩
     rw [HRS.out, rootedB, ← HN.out]
     first | rfl | simp
    ·intro x c kl d ps w3 cnt3 hkey hlk hR hat hrg3 hlt3 hg3 hs3 hen
     obtain ⟨rfl, hown, hne⟩ := come_of hkey hR hat
     obtain ⟨u, hu⟩ := List.exists_mem_of_ne_nil _ hne
     obtain ⟨A4, c4, rfl⟩ := Kd.R_slice (R_of_own hown.1)
     rw [ints_len] at hen
     obtain ⟨ln, hln⟩ : ∃ ln, ln = (ends I x).length := ⟨_, rfl⟩
     rw [← hln] at hen
     simp only [ints_len, ← hln]
     have HLN := Aside0.mk hln
     have HU := Aside0.mk (mem_ends.1 hu)
     have HLK := Aside0.mk hlk
     have HLT3 := Aside0.mk hlt3
     have HRG3 := Aside0.mk hrg3
     have HG3 := Aside0.mk (HG.out.andThen hg3 (fun j hj => by cases hj; exact Or.inl (Nat.le_refl _)) : w1.grownBy w3 none)
     have HIN := Aside0.mk (in_f x 0 1000)
     clear hln hu hne hown hR hat hkey hlk hlt3 hrg3 hg3 hs3
     have hbad : ¬ ((0 ≤ x ∧ x ≤ 1000) ∧ ln = 2) → res = false := by
      intro hb
      rw [HE.out]
      have : twiceB legs forks = false := by
       cases htw : twiceB legs forks with
       | false => rfl
       | true =>
        exfalso
        unfold twiceB at htw
        rw [← HI.out] at htw
        have := List.all_eq_true.1 htw _ HU.out
        simp only [Bool.and_eq_true, decide_eq_true_eq, beq_iff_eq] at this
        exact hb ⟨this.1, by rw [HLN.out]; exact this.2⟩
      rw [this]; rfl
     have HBAD := Aside0.mk hbad
     clear hbad
     have hbel := Aside0.mk (below_step HBB.out (grown_below HG3.out))
     cases hin : decide (0 ≤ x ∧ x ≤ 1000) with
     | false =>
      have HE2 := Aside0.mk (HBAD.out (fun h => by rw [decide_eq_true h.1] at hin; exact absurd hin (by simp)))
      have HIN2 := Aside0.mk (HIN.out.trans (congrArg some hin))
      clear hin
      go_wp2_with (first
       | (go_at_call 97; refine (impl_in.calls x 0 1000 false _ HIN2.out).mono ?_; rintro e w4 ⟨rfl, ⟨⟨nd4, rfl⟩⟩⟩))
      go_ret
      exact ⟨by rw [HE2.out]; rfl, pw_below_drewN hbel.out _⟩
     | true =>
      have HIN2 := Aside0.mk (HIN.out.trans (congrArg some hin))
      have HIX := Aside0.mk (of_decide_eq_true hin)
      clear hin
      by_cases h2 : ln = 2
      ·have t3 : ((ln : Int) == 2) = true := by simp; omega
       have H22 := Aside0.mk h2
       clear h2
       go_wp2_with (first
        | (go_at_call 97; refine (impl_in.calls x 0 1000 true _ HIN2.out).mono ?_; rintro e w4 ⟨rfl, ⟨⟨nd4, rfl⟩⟩⟩))
       go_roundw
       case rel =>
        refine ⟨_, cnt3, L ++ [x], ⟨HRG3.out.kept (grown_drewN (grown_refl _ none) _) (by simp) (by simp)⟩, ⟨fun e => ?_⟩, ⟨fun e he => ?_⟩, ⟨grown_drewN HG3.out _⟩⟩
        ·show (left (keyL e) && !(keyL e).sameKey (keyL x)) = _
         rw [HLE.out e, same_keyL]
         exact left_step _ _ _ _
        ·rcases List.mem_append.1 he with q | q
         ·exact HLI.out e q
         ·rw [List.mem_singleton] at q; rw [q]; exact ⟨HIX.out, by rw [← HLN.out]; exact H22.out⟩
       case measure =>
        have h1 := HRG3.out.left_eq
        have h2 := HRG.out.left_eq
        have h3 := HLT3.out
        show World.rangeLeft w3 Bm w1.heap.size < _
        rw [h1, h2]; exact h3
      ·have t3 : ((ln : Int) == 2) = false := by simp; omega
       have HE2 := Aside0.mk (HBAD.out (fun h => h2 h.2))
       clear h2
       go_wp2_with (first
        | (go_at_call 97; refine (impl_in.calls x 0 1000 true _ HIN2.out).mono ?_; rintro e w4 ⟨rfl, ⟨⟨nd4, rfl⟩⟩⟩))
       go_ret
       exact ⟨by rw [HE2.out]; rfl, pw_below_drewN hbel.out _⟩
theorem impl_IsWeb.calls (A0_0 : Option Addr) (c0_0 : Nat) (l0_0 : List Int) (A0_1 : Option Addr) (c0_1 : Nat) (l0_1 : List (List Int)) (r : Bool) (w : World) (hr0_0 : Kd.C (Kd.int .i64) w A0_0 l0_0.length l0_0) (hc0_0 : l0_0.length ≤ c0_0) (hr0_1 : Kd.C (Kd.slice 2 (Kd.int .i64)) w A0_1 l0_1.length l0_1) (hc0_1 : l0_1.length ≤ c0_1) (h : impl_IsWeb.f l0_0 l0_1 = some r) :
  Calls Try.prog 21 #[.agg #[.slice A0_0 l0_0.length c0_0, .slice A0_1 l0_1.length c0_1]] w fun e w' => e = .returned (.bool r) ∧ Below w.heap.size w w' := by
 unfold impl_IsWeb.f at h
 by_cases hk : l0_0.length ≤ 17592186044416 ∧ l0_1.length ≤ 17592186044416 ∧ wfW l0_0 l0_1 = true
 ·rw [if_pos hk] at h
  obtain rfl := Option.some.inj h
  rw [isWebC_eq]
  exact isWeb_walk l0_0 l0_1 A0_0 c0_0 A0_1 c0_1 hk.1 hk.2.1 (fun p hp => List.all_eq_true.1 hk.2.2 p hp) w hr0_0 hr0_1
 ·rw [if_neg hk] at h; exact absurd h (by simp)

end Go.Proofs.Ytnlhhbnoccobmaa.F
