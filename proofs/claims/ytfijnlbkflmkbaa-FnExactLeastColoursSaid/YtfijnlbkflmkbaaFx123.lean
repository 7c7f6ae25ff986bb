/- What impl_setNumbers answers, and that the Go text comes to it: for every world in which the arguments read as told. -/
import Derived.Test.YtfijnlbkflmkbaaFgA
import Derived.Test.YtfijnlbkflmkbaaFx163
import Derived.Test.YtfijnlbkflmkbaaPureE
import Derived.Test.YtfijnlbkflmkbaaPureMem
import Derived.BigQuiet
import Derived.Deep.RegionWith
import Derived.Deep.RegionLawGrows
import Derived.Laws.EntriesVeiled
namespace Go.Proofs.Ytfijnlbkflmkbaa.F
open Go.RowKit Go.Proofs.YtfijnlbkflmkbaaW.PrintWords Go.Proofs.YtfijnlbkflmkbaaW.PrintLast Go.Proofs.YtfijnlbkflmkbaaW.PrintMore
attribute [local go_sem] max2_int min2_int max_two min_two max_three min_three max_four min_four   -- for this text's walks alone
set_option linter.unusedVariables false
set_option linter.unusedSimpArgs false

/-! ### impl_setNumbers: function 123 (by hand) -/
open Go.Proofs.Ytfijnlbkflmkbaa.Pure Go.Proofs.Ytfijnlbkflmkbaa.Mem
/-- Where the first of a list stands of which P holds. -/
def idxF (P : Nat → Bool) : List Nat → Nat → Int
 | [], _ => -1
 | r :: t, n => if P r = true then n else idxF P t (n + 1)
theorem idxF_ge (P : Nat → Bool) : ∀ (l : List Nat) (n : Nat), decide (0 ≤ idxF P l n) = l.any P
 | [], n => by simp [idxF]
 | r :: t, n => by
  rw [idxF, List.any_cons]
  by_cases h : P r = true
  ·rw [if_pos h, h, Bool.true_or]; simp
  ·rw [if_neg h, show P r = false from by simpa using h, Bool.false_or]; exact idxF_ge P t (n + 1)
theorem idxF_skip {P : Nat → Bool} {l : List Nat} : ∀ n : Nat, n ≤ l.length → (l.take n).any P = false → idxF P l 0 = idxF P (l.drop n) n
 | 0, _, _ => rfl
 | n + 1, hn, h => by
  rw [List.take_succ_eq_append_getElem (by omega), List.any_append, Bool.or_eq_false_iff] at h
  rw [idxF_skip n (by omega) h.1, List.drop_eq_getElem_cons (by omega), idxF, if_neg (by simpa using h.2)]
/-- The cells of setNumbers' literals. -/
structure SEnv (w : World) (l0 : List Int) (A0 : Option Addr) (c0 n : Nat) (cr : Bool) (Bw Bc Bo Br : Nat) : Prop where
 cw : w.cell? ⟨Bw, 0, none⟩ = some (.slice A0 l0.length c0)
 cc : w.cell? ⟨Bc, 0, none⟩ = some (.bool cr)
 co : w.cell? ⟨Bo, 0, none⟩ = some (.slice (some ⟨Br, 0, none⟩) (n + 1) (n + 1))
 n1 : Bw ≠ Br
 n2 : Bc ≠ Br
 n3 : Bo ≠ Br
 rd : Kd.F (Kd.int .i64) w (fun k => k ≠ Br) A0 l0.length l0
 lt : Br < w.heap.size
theorem SEnv.grown {w w' : World} {l0 : List Int} {A0 : Option Addr} {c0 n : Nat} {cr : Bool} {Bw Bc Bo Br : Nat} (h : SEnv w l0 A0 c0 n cr Bw Bc Bo Br) (hg : w.grownBy w' (some Br)) : SEnv w' l0 A0 c0 n cr Bw Bc Bo Br :=
 ⟨hg.cell h.cw (fun e => h.n1 (Option.some.inj e)), hg.cell h.cc (fun e => h.n2 (Option.some.inj e)), hg.cell h.co (fun e => h.n3 (Option.some.inj e)), h.n1, h.n2, h.n3,
  Kd.F_grown h.rd hg (fun k hk e => hk (Option.some.inj e)), Nat.lt_of_lt_of_le h.lt hg.size⟩

set_option maxHeartbeats 8000000 in
set_option maxRecDepth 100000 in
theorem setNumbers_1_1 (l0 : List Int) (hw : Word l0) (A0 : Option Addr) (c0 n : Nat) (cr : Bool) (Bw Bc Ba a b : Nat) (v : Bool) (hv : (crossB l0 a b != cr) = v) (hn : n = l0.length / 2) (hc0 : l0.length ≤ c0) (ha : a < n) (hb : b < n) (w : World) (hr : Kd.C (Kd.int .i64) w A0 l0.length l0)
  (h1 : w.cell? ⟨Bw, 0, none⟩ = some (.slice A0 l0.length c0)) (h2 : w.cell? ⟨Bc, 0, none⟩ = some (.bool cr)) (h3 : w.cell? ⟨Ba, 0, none⟩ = some (.int .i64 (a : Int))) :
  Calls Try.prog 165 #[.int .i64 (b : Int), .pointer (some ⟨Bw, 0, none⟩), .pointer (some ⟨Ba, 0, none⟩), .pointer (some ⟨Bc, 0, none⟩)] w fun e w' => e = .returned (.bool v) ∧ ∃ nd, w' = w.drewN nd := by
 subst hv
 have hle := hw.le
 obtain ⟨x, hx⟩ : ∃ x, x = crossB l0 a b := ⟨_, rfl⟩
 obtain ⟨q, hq⟩ := Ev.rounds (icross_ev l0 hw a b (by omega) (by omega))
 rw [← hx] at hq ⊢
 have HQ := Aside0.mk hq
 have HR := Aside0.mk hr
 have HC := Aside0.mk hc0
 clear hq hr hc0 hw hx hn
 go_enter Try.func165, Try.ntmps165
 go_wp2_with fail
 go_quiet ((go_at_call 113; exact Calls.quiet_of ((impl_cross.calls q A0 c0 l0 (a : Int) (b : Int) x _ (Kd.C_drewN HR.out _) HC.out HQ.out).mono (fun _ _ h => ⟨h.1, h.2.out⟩))))
 go_wp2
 go_ret
 exact ⟨rfl, _, rfl⟩

set_option maxHeartbeats 8000000 in
set_option maxRecDepth 100000 in
theorem setNumbers_IndexFunc (l0 : List Int) (hw : Word l0) (A0 : Option Addr) (c0 n : Nat) (cr : Bool) (Bw Bc Ba a : Nat) (hn : n = l0.length / 2) (hc0 : l0.length ≤ c0) (ha : a < n) (l : List Nat) (hl : ∀ b ∈ l, b < n) (hll : l.length ≤ 6) (A : Option Addr) (c : Nat) (w : World) (hr : Kd.C (Kd.int .i64) w A0 l0.length l0)
  (hL : Kd.C (Kd.int .i64) w A (ints l).length (ints l)) (h1 : w.cell? ⟨Bw, 0, none⟩ = some (.slice A0 l0.length c0)) (h2 : w.cell? ⟨Bc, 0, none⟩ = some (.bool cr)) (h3 : w.cell? ⟨Ba, 0, none⟩ = some (.int .i64 (a : Int))) :
  Calls Try.prog 118 #[.slice A (ints l).length c, .func (.func 165) #[] #[.pointer (some ⟨Bw, 0, none⟩), .pointer (some ⟨Ba, 0, none⟩), .pointer (some ⟨Bc, 0, none⟩)]] w fun e w' =>
   e = .returned (.int .i64 (idxF (fun b => crossB l0 a b != cr) l 0)) ∧ ∃ nd, w' = w.drewN nd := by
 have HW := Aside0.mk hw
 have HN := Aside0.mk hn
 have HR := Aside0.mk hr
 have HC := Aside0.mk hc0
 have HL := Aside0.mk hl
 have HLL := Aside0.mk hL
 have H1 := Aside0.mk h1
 have H2 := Aside0.mk h2
 have H3 := Aside0.mk h3
 have HIL := Aside0.mk (ints_len l)
 obtain ⟨P, hP⟩ : ∃ P : Nat → Bool, P = fun b => crossB l0 a b != cr := ⟨_, rfl⟩
 rw [← hP]
 have HP := Aside0.mk hP
 clear hw hn hr hc0 hl hL h1 h2 h3 hP
 go_enter Try.func118, Try.ntmps118
 go_wp2
 go_loopw [8] (fun i wr => ∃ x : Nat, i = .int .i64 (x : Int) ∧ Aside0 (x ≤ l.length) ∧ Aside0 ((l.take x).any P = false) ∧ ∃ nd, wr = w.drewN nd)
  (fun i _ => l.length - (intOf i).toNat)
 case atStart => exact ⟨0, rfl, ⟨Nat.zero_le _⟩, ⟨rfl⟩, 0, rfl⟩
 case round =>
  obtain ⟨x, rfl, HX, HA, nd, rfl⟩ := hrel
  by_cases hlt : x < l.length
  ·have t1 : decide ((x : Int) < ((ints l).length : Int)) = true := decide_eq_true (by rw [HIL.out]; omega)
   have t2 : decide (x < (ints l).length) = true := decide_eq_true (by rw [HIL.out]; omega)
   obtain ⟨ad, ead, hcell⟩ := cell_of_C HLL.out x (by rw [HIL.out]; exact hlt)
   subst ead
   rw [ints_getD l x hlt] at hcell
   obtain ⟨b, hb⟩ : ∃ b, b = l.getD x 0 := ⟨_, rfl⟩
   rw [← hb] at hcell
   have HB := Aside0.mk hb
   have HBN := Aside0.mk (show b < n from by rw [hb]; exact HL.out _ (by rw [List.getD_eq_getElem?_getD, List.getElem?_eq_getElem hlt]; exact List.getElem_mem _))
   have HT := Aside0.mk (show l.take (x + 1) = l.take x ++ [b] from by rw [List.take_succ_eq_append_getElem hlt, hb, List.getD_eq_getElem?_getD, List.getElem?_eq_getElem hlt]; rfl)
   have HD := Aside0.mk (show l.drop x = b :: l.drop (x + 1) from by rw [List.drop_eq_getElem_cons hlt, hb, List.getD_eq_getElem?_getD, List.getElem?_eq_getElem hlt]; rfl)
   have HLT := Aside0.mk hlt
   have hxl : x < (ints l).length := by rw [HIL.out]; exact hlt
   clear hlt hb
   obtain ⟨v, hv⟩ : ∃ v, (crossB l0 a b != cr) = v := ⟨_, rfl⟩
   have HVV := Aside0.mk hv
   have HV := Aside0.mk (show P b = v from by rw [HP.out]; exact hv)
   clear hv
   cases v with
   | true =>
    go_wp2_with (first | (go_at_call 165; refine (setNumbers_1_1 l0 HW.out A0 c0 n cr Bw Bc Ba a b _ HVV.out HN.out HC.out ha HBN.out _ (Kd.C_drewN HR.out _) H1.out H2.out H3.out).mono ?_; rintro e w2 ⟨rfl, ⟨nd2, rfl⟩⟩))
    go_ret
    refine ⟨?_, _, rfl⟩
    rw [idxF_skip x HX.out HA.out, HD.out, idxF, if_pos HV.out]
    rfl
   | false =>
    go_wp2_with (first | (go_at_call 165; refine (setNumbers_1_1 l0 HW.out A0 c0 n cr Bw Bc Ba a b _ HVV.out HN.out HC.out ha HBN.out _ (Kd.C_drewN HR.out _) H1.out H2.out H3.out).mono ?_; rintro e w2 ⟨rfl, ⟨nd2, rfl⟩⟩))
    go_roundw
    case rel => exact ⟨x + 1, congrArg _ (wS (by have := HLT.out; omega)), ⟨HLT.out⟩, ⟨by rw [HT.out, List.any_append, HA.out]; simp [HV.out]⟩, _, rfl⟩
    case measure => have := HLT.out; rw [wS (by omega)]; simp [intOf]; omega
  ·have t1 : decide ((x : Int) < ((ints l).length : Int)) = false := decide_eq_false (by rw [HIL.out]; omega)
   have t2 : decide (x < (ints l).length) = false := decide_eq_false (by rw [HIL.out]; omega)
   have HXE := Aside0.mk (show x = l.length from by have := HX.out; omega)
   clear hlt
   go_wp2
   go_ret
   refine ⟨?_, _, rfl⟩
   have h := HA.out
   rw [HXE.out] at h
   rw [idxF_skip l.length (Nat.le_refl _) h, List.drop_of_length_le (Nat.le_refl _)]
   rfl

set_option maxHeartbeats 8000000 in
set_option maxRecDepth 100000 in
theorem setNumbers_ContainsFunc (l0 : List Int) (hw : Word l0) (A0 : Option Addr) (c0 n : Nat) (cr : Bool) (Bw Bc Ba a : Nat) (hn : n = l0.length / 2) (hc0 : l0.length ≤ c0) (ha : a < n) (l : List Nat) (hl : ∀ b ∈ l, b < n) (hll : l.length ≤ 6) (A : Option Addr) (c : Nat) (w : World) (hr : Kd.C (Kd.int .i64) w A0 l0.length l0)
  (hL : Kd.C (Kd.int .i64) w A (ints l).length (ints l)) (h1 : w.cell? ⟨Bw, 0, none⟩ = some (.slice A0 l0.length c0)) (h2 : w.cell? ⟨Bc, 0, none⟩ = some (.bool cr)) (h3 : w.cell? ⟨Ba, 0, none⟩ = some (.int .i64 (a : Int))) :
  Calls Try.prog 159 #[.slice A (ints l).length c, .func (.func 165) #[] #[.pointer (some ⟨Bw, 0, none⟩), .pointer (some ⟨Ba, 0, none⟩), .pointer (some ⟨Bc, 0, none⟩)]] w fun e w' =>
   e = .returned (.bool (l.any fun b => crossB l0 a b != cr)) ∧ ∃ nd, w' = w.drewN nd := by
 have HI := Aside0.mk (idxF_ge (fun b => crossB l0 a b != cr) l 0)
 have HW := Aside0.mk hw
 have HN := Aside0.mk hn
 have HR := Aside0.mk hr
 have HC := Aside0.mk hc0
 have HL := Aside0.mk hl
 have HLL := Aside0.mk hL
 have H1 := Aside0.mk h1
 have H2 := Aside0.mk h2
 have H3 := Aside0.mk h3
 clear hw hn hr hc0 hl hL h1 h2 h3
 go_enter Try.func159, Try.ntmps159
 go_wp2_with (first | (go_at_call 118; refine (setNumbers_IndexFunc l0 HW.out A0 c0 n cr Bw Bc Ba a HN.out HC.out ha l HL.out hll A c _ HR.out HLL.out H1.out H2.out H3.out).mono ?_; rintro e w1 ⟨rfl, ⟨nd, rfl⟩⟩))
 go_ret
 exact ⟨by rw [← HI.out]; rfl, _, rfl⟩

/-- Whether all pairs of a list cross, or do not. -/
def okTo (X : Nat → Nat → Bool) (cr : Bool) (l : List Nat) : Nat → Bool
 | 0 => true
 | i + 1 => okTo X cr l i && !((l.take i).any fun b => X (l.getD i 0) b != cr)
/-- The counts behind one more set. -/
def bump (X : Nat → Nat → Bool) (cr : Bool) (l : List Nat) (out : List Int) : List Int := if okTo X cr l l.length = true then out.set l.length (wrap64 (out.getD l.length 0 + 1)) else out
theorem okTo_stop {X : Nat → Nat → Bool} {cr : Bool} {l : List Nat} {i : Nat} (h : okTo X cr l i = false) : ∀ d, okTo X cr l (i + d) = false
 | 0 => h
 | d + 1 => by rw [← Nat.add_assoc, okTo, okTo_stop h d, Bool.false_and]

set_option maxHeartbeats 8000000 in
set_option maxRecDepth 100000 in
theorem setNumbers_1 (l0 : List Int) (hw : Word l0) (A0 : Option Addr) (c0 n : Nat) (cr : Bool) (Bw Bc Bo Br : Nat) (hn : n = l0.length / 2) (hc0 : l0.length ≤ c0) (l : List Nat) (hl : ∀ b ∈ l, b < n) (hln : l.length ≤ n) (A : Option Addr) (c : Nat) (out : List Int) (w : World) (E : SEnv w l0 A0 c0 n cr Bw Bc Bo Br)
  (ho : out.length = n + 1) (hr : w.heap[Br]? = some (.cells (nums .i64 out).toArray 2 (0, 0))) (hF : Kd.F (Kd.int .i64) w (fun k => k ≠ Br) A (ints l).length (ints l)) (hc : (ints l).length ≤ c) :
  Calls Try.prog 164 #[.slice A (ints l).length c, .pointer (some ⟨Bw, 0, none⟩), .pointer (some ⟨Bc, 0, none⟩), .pointer (some ⟨Bo, 0, none⟩)] w fun e w' =>
   e = .returned (.tuple #[]) ∧ w.grownBy w' (some Br) ∧ w'.heap[Br]? = some (.cells (nums .i64 (bump (crossB l0) cr l out)).toArray 2 (0, 0)) := by
 have hle := hw.le
 have hn6 : n ≤ 6 := by omega
 have HW := Aside0.mk hw
 have HN := Aside0.mk hn
 have HC0 := Aside0.mk hc0
 have HL := Aside0.mk hl
 have HLN := Aside0.mk hln
 have HE := Aside0.mk E
 have HO := Aside0.mk ho
 have HR := Aside0.mk hr
 have HF := Aside0.mk hF
 have HC := Aside0.mk hc
 have HIL := Aside0.mk (ints_len l)
 clear hw hn hc0 hl hln E ho hr hF hc hle
 have hmf : ∀ (fn : Fn) (first cap : Array Value) (w : World), (Instr.makeFunc fn first cap).run Try.prog w = .ok (.func fn first cap) w := fun _ _ _ _ => rfl
 go_enter Try.func164, Try.ntmps164
 go_wp2
 go_loopw [9] (fun i wr => ∃ x : Nat, i = .int .i64 (x : Int) ∧ Aside0 (x ≤ l.length) ∧ Aside0 (okTo (crossB l0) cr l x = true) ∧ Aside0 (Below w.heap.size w wr))
  (fun i _ => l.length - (intOf i).toNat)
 case atStart => exact ⟨0, rfl, ⟨Nat.zero_le _⟩, ⟨rfl⟩, ⟨Below.refl _ _⟩⟩
 case round =>
  obtain ⟨x, rfl, HX, HA, HB⟩ := hrel
  have HE1 := Aside0.mk (HE.out.grown (gb_of_below HB.out _))
  have HF1 := Aside0.mk (Kd.F_below HF.out HB.out)
  have HR1 := Aside0.mk ((HB.out.block Br HE.out.lt).trans HR.out)
  by_cases hlt : x < l.length
  ·have t1 : decide ((x : Int) < ((ints l).length : Int)) = true := decide_eq_true (by rw [HIL.out]; omega)
   have t2 : decide (x < (ints l).length) = true := decide_eq_true (by rw [HIL.out]; omega)
   obtain ⟨ad, ead, hcell⟩ := cell_of_C (Kd.F_now HF1.out) x (by rw [HIL.out]; exact hlt)
   subst ead
   rw [ints_getD l x hlt] at hcell
   obtain ⟨a, ha⟩ : ∃ a, a = l.getD x 0 := ⟨_, rfl⟩
   rw [← ha] at hcell
   have HAA := Aside0.mk ha
   have HAN := Aside0.mk (show a < n from by rw [ha]; exact HL.out _ (by rw [List.getD_eq_getElem?_getD, List.getElem?_eq_getElem hlt]; exact List.getElem_mem _))
   have HLT := Aside0.mk hlt
   have hxl : x < (ints l).length := by rw [HIL.out]; exact hlt
   obtain ⟨i0, hi0, _, hsz, _⟩ := info_parts info2
   obtain ⟨hcut, hA, hC4⟩ := print_take_of (P := Try.prog) (Value.int .i64) 0 22 2 .i64 Try.underlying22 hi0 hsz (some ad) c (ints l) (x : Int) (by omega) (by omega) HC.out
   have HCUT := Aside0.mk (hA)
   have HC4 := Aside0.mk hC4
   rw [Int.toNat_natCast] at HCUT HC4 hcut
   have HTK := Aside0.mk (show (ints l).take x = ints (l.take x) from by unfold ints; rw [List.map_take])
   rw [HTK.out] at HCUT HC4 hcut
   obtain ⟨v, hv⟩ : ∃ v, ((l.take x).any fun b => crossB l0 a b != cr) = v := ⟨_, rfl⟩
   have HV := Aside0.mk hv
   clear hlt ha hA hC4 hi0 hsz hv
   cases v with
   | true =>
    go_wp2_with (first | (go_at_call 159; refine (setNumbers_ContainsFunc l0 HW.out A0 c0 n cr Bw Bc wr.heap.size a HN.out HC0.out HAN.out (l.take x) (fun b hb => HL.out b (List.mem_of_mem_take hb)) (by rw [List.length_take]; have := HLN.out; omega) (some ad) c _ (Kd.C_alloc (Kd.F_now HE1.out.rd) _) (Kd.C_of_reads (h1 := fun _ => rfl) (HCUT.out _ (Kd.reads_of_C (Kd.C_alloc (Kd.F_now HF1.out) _)))) (HE1.out.grown (grown_alloc (grown_refl _ _) _)).cw (HE1.out.grown (grown_alloc (grown_refl _ _) _)).cc (cell1 (new_at rfl))).mono ?_; rintro e w2 ⟨rfl, ⟨nd, rfl⟩⟩; rw [HV.out]))
    (try simp only [Exit.inBlock, Exit.then])
    refine bodyPost_ret (results_none rfl _ _ _) rfl ?_
    refine ⟨rfl, gb_of_below (pw_below_drewN (below_alloc HB.out _) _) _, ?_⟩
    have h0 : okTo (crossB l0) cr l l.length = false := by
     have h1 : okTo (crossB l0) cr l (x + 1) = false := by rw [okTo, ← HAA.out, HV.out, Bool.not_true, Bool.and_false]
     have h2 := okTo_stop h1 (l.length - (x + 1))
     rw [Nat.add_sub_cancel' HLT.out] at h2
     exact h2
    rw [bump, h0, if_neg (by simp)]
    repeat (first | exact HR1.out | refine blk_alloc ?_ _ | refine blk_drewN ?_ _)
   | false =>
    go_wp2_with (first | (go_at_call 159; refine (setNumbers_ContainsFunc l0 HW.out A0 c0 n cr Bw Bc wr.heap.size a HN.out HC0.out HAN.out (l.take x) (fun b hb => HL.out b (List.mem_of_mem_take hb)) (by rw [List.length_take]; have := HLN.out; omega) (some ad) c _ (Kd.C_alloc (Kd.F_now HE1.out.rd) _) (Kd.C_of_reads (h1 := fun _ => rfl) (HCUT.out _ (Kd.reads_of_C (Kd.C_alloc (Kd.F_now HF1.out) _)))) (HE1.out.grown (grown_alloc (grown_refl _ _) _)).cw (HE1.out.grown (grown_alloc (grown_refl _ _) _)).cc (cell1 (new_at rfl))).mono ?_; rintro e w2 ⟨rfl, ⟨nd, rfl⟩⟩; rw [HV.out]))
    go_roundw
    case rel => exact ⟨x + 1, congrArg _ (wS (by have := HLT.out; have := HLN.out; omega)), ⟨HLT.out⟩, ⟨by rw [okTo, HA.out, ← HAA.out, HV.out]; rfl⟩, ⟨pw_below_drewN (below_alloc HB.out _) _⟩⟩
    case measure => have := HLT.out; have := HLN.out; rw [wS (by omega)]; simp [intOf]; omega
  ·have t1 : decide ((x : Int) < ((ints l).length : Int)) = false := decide_eq_false (by rw [HIL.out]; omega)
   have t2 : decide (x < (ints l).length) = false := decide_eq_false (by rw [HIL.out]; omega)
   have HXE := Aside0.mk (show x = l.length from by have := HX.out; omega)
   have h2 := HE1.out.co
   have hx := blk_cell HR1.out (ints l).length
   have hlo : (ints l).length < n + 1 := by rw [HIL.out]; have := HLN.out; omega
   rw [nums_get out _ (by rw [HO.out]; exact hlo)] at hx
   have hfz := blk_frozen HR1.out (ints l).length
   clear hlt
   go_wp2
   go_end0
   refine ⟨rfl, grown_set (gb_of_below HB.out _) _ _, ?_⟩
   have h3 := HA.out
   rw [HXE.out] at h3
   rw [blk_set HR1.out, nums_set, bump, if_pos h3, HIL.out, List.getD_eq_getElem?_getD]

def numsTo (X : Nat → Nat → Bool) (cr : Bool) (n : Nat) : Nat → List Int
 | 0 => List.replicate (n + 1) 0
 | s + 1 => bump X cr (setTo s n) (numsTo X cr n s)
def setsV (w : List Int) (cr : Bool) : List Int := numsTo (crossB w) cr (w.length / 2) (2 ^ (w.length / 2))
def impl_setNumbers.f (l0 : List Int) (a1 : Bool) : Option (List Int) := if isW l0 = true then some (setsV l0 a1) else none
theorem bump_len (X : Nat → Nat → Bool) (cr : Bool) (l : List Nat) (out : List Int) : (bump X cr l out).length = out.length := by
 unfold bump; split
 ·rw [List.length_set]
 ·rfl
theorem numsTo_len (X : Nat → Nat → Bool) (cr : Bool) (n : Nat) : ∀ s, (numsTo X cr n s).length = n + 1
 | 0 => List.length_replicate
 | s + 1 => by rw [numsTo, bump_len, numsTo_len X cr n s]
theorem setTo_lt {s i x : Nat} (h : x ∈ setTo s i) : x < i := List.mem_range.1 (List.mem_filter.1 h).1
set_option maxHeartbeats 8000000 in
set_option maxRecDepth 100000 in
theorem impl_setNumbers.calls (A0 : Option Addr) (c0 : Nat) (l0 : List Int) (a1 : Bool) (r : List Int) (w : World) (hr0 : Kd.C (Kd.int .i64) w A0 l0.length l0) (hc0 : l0.length ≤ c0) (h : impl_setNumbers.f l0 a1 = some r) :
  Calls Try.prog 123 #[.slice A0 l0.length c0, .bool a1] w fun e w' => ∃ v0_ : Value, e = .returned v0_ ∧ Kd.R (Kd.int .i64) 2 w' w.heap.size (fun _ => True) v0_ r ∧ Below w.heap.size w w' := by
 have hf : isW l0 = true ∧ r = setsV l0 a1 := by
  unfold impl_setNumbers.f at h
  by_cases hk : isW l0 = true
  ·rw [if_pos hk] at h; exact ⟨hk, (Option.some.inj h).symm⟩
  ·rw [if_neg hk] at h; exact absurd h (by simp)
 have hw := (isW_iff l0).1 hf.1
 have hle := hw.le
 have HW := Aside0.mk hw
 have HRR := Aside0.mk hf.2
 obtain ⟨n, hn⟩ : ∃ n, n = l0.length / 2 := ⟨_, rfl⟩
 have hch : impl_chords.f l0 = some (n : Int) := by rw [hn]; exact chords_f l0 hle
 have CH := Aside0.mk hch
 have HN := Aside0.mk hn
 have hn6 : n ≤ 6 := by omega
 have hmk := make_ints (P := Try.prog) Try.underlying22 info2 ((n : Int) + 1) (n + 1) (by omega) (by omega)
 have HR := Aside0.mk hr0
 have HC := Aside0.mk hc0
 have HLE := Aside0.mk hle
 clear hr0 hc0 h hf hw hle hch hn
 have hmf : ∀ (fn : Fn) (first cap : Array Value) (w : World), (Instr.makeFunc fn first cap).run Try.prog w = .ok (.func fn first cap) w := fun _ _ _ _ => rfl
 go_enter Try.func123, Try.ntmps123
 go_wp2_with (first | (go_at_call 149; refine (impl_chords.calls A0 c0 l0 _ _ (by repeat (first | exact HR.out | refine Kd.C_alloc ?_ _ | refine Kd.C_drewN ?_ _)) HC.out CH.out).mono ?_; rintro e w' ⟨rfl, ⟨nd, rfl⟩⟩))
 obtain ⟨w0, hw0⟩ : ∃ w0, w0 = (((((w.alloc (.cells #[.slice A0 l0.length c0] 22 (0, 0))).alloc (.cells #[.bool a1] 4 (0, 0))).drewN nd).alloc (.cells (nums .i64 (List.replicate (n + 1) 0)).toArray 2 (0, 0))).alloc (.cells #[.slice (some ⟨w.heap.size + 1 + 1, 0, none⟩) (n + 1) (n + 1)] 22 (0, 0))) := ⟨_, rfl⟩
 have hE : SEnv w0 l0 A0 c0 n a1 w.heap.size (w.heap.size + 1) (w.heap.size + 1 + 1 + 1) (w.heap.size + 1 + 1) := by
  rw [hw0]
  exact ⟨cell1 (by repeat (first | exact new_at (by simp) | refine blk_alloc ?_ _ | refine blk_drewN ?_ _)), cell1 (by repeat (first | exact new_at (by simp) | refine blk_alloc ?_ _ | refine blk_drewN ?_ _)), cell1 (by repeat (first | exact new_at (by simp) | refine blk_alloc ?_ _ | refine blk_drewN ?_ _)), by omega, by omega, by omega, by repeat (first | exact Kd.F_mono (F_of_C HR.out) (fun k hk => by omega) | refine Kd.F_alloc ?_ _ | refine Kd.F_drewN ?_ _), by simp⟩
 have hV : w0.heap[w.heap.size + 1 + 1]? = some (.cells (nums .i64 (numsTo (crossB l0) a1 n 0)).toArray 2 (0, 0)) := by
  rw [hw0]
  repeat (first | exact new_at (by simp) | refine blk_alloc ?_ _ | refine blk_drewN ?_ _)
 have hB0 : Below w.heap.size w w0 := by
  rw [hw0]
  repeat (first | exact Below.refl _ _ | apply below_alloc | apply pw_below_drewN)
 rw [← hw0]
 have HE := Aside0.mk hE
 have HV := Aside0.mk hV
 have HB0 := Aside0.mk hB0
 clear hw0 hE hV hB0 hmk
 refine (sets_setNumbers l0 A0 c0 n (2 ^ n) HN.out HLE.out rfl HC.out w.heap.size (w.heap.size + 1) (w.heap.size + 1 + 1 + 1) (w.heap.size + 1 + 1) (numsTo (crossB l0) a1 n) w0 HE.out.rd HE.out.lt (fun s A c w1 hs hg hh hF hc => ?_) HV.out).mono ?_
 ·exact setNumbers_1 l0 HW.out A0 c0 n a1 _ _ _ _ HN.out HC.out (setTo s n) (fun b hb => setTo_lt hb) (setTo_le s n) A c _ w1 (HE.out.grown hg) (numsTo_len _ _ _ _) hh hF hc
 rintro e w2 ⟨rfl, hg, hr⟩
 have hE2 := HE.out.grown hg
 have h2 := hE2.co
 have HG := Aside0.mk hg
 have HH := Aside0.mk hr
 clear hg hr hE2
 go_wp2
 go_ret
 refine ⟨_, rfl, ?_, below_grown HB0.out HG.out (by omega)⟩
 have h3 := HH.out
 rw [HRR.out, setsV, ← HN.out]
 exact R_of_block h3 (by rw [numsTo_len]) (by unfold maxLen; omega) (by omega)

end Go.Proofs.Ytfijnlbkflmkbaa.F
