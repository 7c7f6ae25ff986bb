/- What impl_classes answers, and that the Go text comes to it: for every world in which the arguments read as told. -/
import Derived.Test.YtnlhhbnoccobmaaFgA
import Derived.Test.YtnlhhbnoccobmaaFgK
import Derived.Test.YtnlhhbnoccobmaaPureE
import Derived.Test.YtnlhhbnoccobmaaPureMem
import Derived.Test.YtnlhhbnoccobmaaPureIdx
import Derived.Test.YtnlhhbnoccobmaaPureRows
import Derived.WalkSpells
import Derived.Test.YtnlhhbnoccobmaaPureCls
import Derived.BigQuiet
import Derived.Deep.RegionWith
import Derived.Deep.RegionLawGrows
import Derived.Deep.RegionHeld3
import Derived.Laws.EntriesVeiled
namespace Go.Proofs.Ytnlhhbnoccobmaa.F
open Go.RowKit Go.Proofs.YtnlhhbnoccobmaaW.PrintWords Go.Proofs.YtnlhhbnoccobmaaW.PrintLast Go.Proofs.YtnlhhbnoccobmaaW.PrintMore
attribute [local go_sem] max2_int min2_int max_two min_two max_three min_three max_four min_four   -- for this text's walks alone
set_option linter.unusedVariables false
set_option linter.unusedSimpArgs false

/-! ### impl_classes: function 133 (by hand) -/
open Go.Proofs.Ytnlhhbnoccobmaa.Pure Go.Proofs.Ytnlhhbnoccobmaa.Mem Go.Proofs.Ytnlhhbnoccobmaa.Chrom
set_option maxHeartbeats 1500000 in
set_option maxRecDepth 100000 in
theorem classes_1_1 (l0 : List Int) (hw : Word l0) (A0 : Option Addr) (c0 n : Nat) (Bw Ba a b : Nat) (v : Bool) (hv : (crossB l0 b a) = v) (hn : n = l0.length / 2) (hc0 : l0.length ≤ c0) (ha : a < n) (hb : b < n) (w : World) (hr : Kd.C (Kd.int .i64) w A0 l0.length l0)
  (h1 : w.cell? ⟨Bw, 0, none⟩ = some (.slice A0 l0.length c0)) (h3 : w.cell? ⟨Ba, 0, none⟩ = some (.int .i64 (a : Int))) :
  Calls Try.prog 186 #[.int .i64 (b : Int), .pointer (some ⟨Bw, 0, none⟩), .pointer (some ⟨Ba, 0, none⟩)] w fun e w' => e = .returned (.bool v) ∧ ∃ nd, w' = w.drewN nd := by
 subst hv
 have hle := hw.le
 obtain ⟨x, hx⟩ : ∃ x, x = crossB l0 b a := ⟨_, rfl⟩
 obtain ⟨q, hq⟩ := Ev.rounds (icross_ev l0 hw b a (by omega) (by omega))
 rw [← hx] at hq ⊢
 have HQ := Aside0.mk hq
 have HR := Aside0.mk hr
 have HC := Aside0.mk hc0
 clear hq hr hc0 hw hx hn
 go_enter Try.func186, Try.ntmps186
 go_wp2_with (first | (go_at_call 187; refine (impl_cross.calls q A0 c0 l0 (b : Int) (a : Int) x _ HR.out HC.out HQ.out).mono ?_; rintro e w2 ⟨rfl, ⟨nd, rfl⟩⟩))
 go_ret
 exact ⟨rfl, _, rfl⟩

set_option maxHeartbeats 1500000 in
set_option maxRecDepth 100000 in
theorem classes_IndexFunc (l0 : List Int) (hw : Word l0) (A0 : Option Addr) (c0 n : Nat) (Bw Ba a : Nat) (hn : n = l0.length / 2) (hc0 : l0.length ≤ c0) (ha : a < n) (l : List Nat) (hl : ∀ b ∈ l, b < n) (hll : l.length ≤ 6) (A : Option Addr) (c : Nat) (w : World) (hr : Kd.C (Kd.int .i64) w A0 l0.length l0)
  (hL : Kd.C (Kd.int .i64) w A (ints l).length (ints l)) (h1 : w.cell? ⟨Bw, 0, none⟩ = some (.slice A0 l0.length c0)) (h3 : w.cell? ⟨Ba, 0, none⟩ = some (.int .i64 (a : Int))) :
  Calls Try.prog 132 #[.slice A (ints l).length c, .func (.func 186) #[] #[.pointer (some ⟨Bw, 0, none⟩), .pointer (some ⟨Ba, 0, none⟩)]] w fun e w' =>
   e = .returned (.int .i64 (idxF (fun b => crossB l0 b a) l 0)) ∧ ∃ nd, w' = w.drewN nd := by
 have HW := Aside0.mk hw
 have HN := Aside0.mk hn
 have HR := Aside0.mk hr
 have HC := Aside0.mk hc0
 have HL := Aside0.mk hl
 have HLL := Aside0.mk hL
 have H1 := Aside0.mk h1
 have H3 := Aside0.mk h3
 have HIL := Aside0.mk (ints_len l)
 obtain ⟨P, hP⟩ : ∃ P : Nat → Bool, P = fun b => crossB l0 b a := ⟨_, rfl⟩
 rw [← hP]
 have HP := Aside0.mk hP
 clear hw hn hr hc0 hl hL h1 h3 hP
 go_enter Try.func132, Try.ntmps132
 go_wp2
 go_loopw [8] (fun i wr => ∃ x : Nat, i = .int .i64 (x : Int) ∧ Aside0 (x ≤ l.length) ∧ Aside0 ((l.take x).any P = false) ∧ ∃ nd, wr = w.drewN nd)
  (fun i _ => l.length - (intOf i).toNat)
 case atStart => exact ⟨0, rfl, ⟨Nat.zero_le _⟩, ⟨rfl⟩, 0, rfl⟩
 case round =>
  obtain ⟨x, rfl, HX, HA, nd, rfl⟩ := hrel
  by_cases hlt : x < l.length
  ·have t1 : decide ((x : Int) < ((ints l).length : Int)) = true := decide_eq_true (by rw [HIL.out]; omega)
   have t2 : decide (x < (ints l).length) = true := decide_eq_true (by rw [HIL.out]; omega)
   obtain ⟨ad, ead, hcell⟩ := cell_of_C HLL.out x (by rw [HIL.out]; exact hlt)
   subst ead
   rw [ints_getD l x hlt] at hcell
   obtain ⟨b, hb⟩ : ∃ b, b = l.getD x 0 := ⟨_, rfl⟩
   rw [← hb] at hcell
   have HB := Aside0.mk hb
   have HBN := Aside0.mk (show b < n from by rw [hb]; exact HL.out _ (by rw [List.getD_eq_getElem?_getD, List.getElem?_eq_getElem hlt]; exact List.getElem_mem _))
   have HT := Aside0.mk (show l.take (x + 1) = l.take x ++ [b] from by rw [List.take_succ_eq_append_getElem hlt, hb, List.getD_eq_getElem?_getD, List.getElem?_eq_getElem hlt]; rfl)
   have HD := Aside0.mk (show l.drop x = b :: l.drop (x + 1) from by rw [List.drop_eq_getElem_cons hlt, hb, List.getD_eq_getElem?_getD, List.getElem?_eq_getElem hlt]; rfl)
   have HLT := Aside0.mk hlt
   have hxl : x < (ints l).length := by rw [HIL.out]; exact hlt
   clear hlt hb
   obtain ⟨v, hv⟩ : ∃ v, (crossB l0 b a) = v := ⟨_, rfl⟩
   have HVV := Aside0.mk hv
   have HV := Aside0.mk (show P b = v from by rw [HP.out]; exact hv)
   clear hv
   cases v with
   | true =>
    go_wp2_with (first | (go_at_call 186; refine (classes_1_1 l0 HW.out A0 c0 n Bw Ba a b _ HVV.out HN.out HC.out ha HBN.out _ (Kd.C_drewN HR.out _) H1.out H3.out).mono ?_; rintro e w2 ⟨rfl, ⟨nd2, rfl⟩⟩))
    go_ret
    refine ⟨?_, _, rfl⟩
    rw [idxF_skip x HX.out HA.out, HD.out, idxF, if_pos HV.out]
    rfl
   | false =>
    go_wp2_with (first | (go_at_call 186; refine (classes_1_1 l0 HW.out A0 c0 n Bw Ba a b _ HVV.out HN.out HC.out ha HBN.out _ (Kd.C_drewN HR.out _) H1.out H3.out).mono ?_; rintro e w2 ⟨rfl, ⟨nd2, rfl⟩⟩))
    go_roundw
    case rel => exact ⟨x + 1, congrArg _ (wS (by have := HLT.out; omega)), ⟨HLT.out⟩, ⟨by rw [HT.out, List.any_append, HA.out]; simp [HV.out]⟩, _, rfl⟩
    case measure => have := HLT.out; rw [wS (by omega)]; simp [intOf]; omega
  ·have t1 : decide ((x : Int) < ((ints l).length : Int)) = false := decide_eq_false (by rw [HIL.out]; omega)
   have t2 : decide (x < (ints l).length) = false := decide_eq_false (by rw [HIL.out]; omega)
   have HXE := Aside0.mk (show x = l.length from by have := HX.out; omega)
   clear hlt
   go_wp2
   go_ret
   refine ⟨?_, _, rfl⟩
   have h := HA.out
   rw [HXE.out] at h
   rw [idxF_skip l.length (Nat.le_refl _) h, List.drop_of_length_le (Nat.le_refl _)]
   rfl

set_option maxHeartbeats 1500000 in
set_option maxRecDepth 100000 in
theorem classes_ContainsFunc (l0 : List Int) (hw : Word l0) (A0 : Option Addr) (c0 n : Nat) (Bw Ba a : Nat) (hn : n = l0.length / 2) (hc0 : l0.length ≤ c0) (ha : a < n) (l : List Nat) (hl : ∀ b ∈ l, b < n) (hll : l.length ≤ 6) (A : Option Addr) (c : Nat) (w : World) (hr : Kd.C (Kd.int .i64) w A0 l0.length l0)
  (hL : Kd.C (Kd.int .i64) w A (ints l).length (ints l)) (h1 : w.cell? ⟨Bw, 0, none⟩ = some (.slice A0 l0.length c0)) (h3 : w.cell? ⟨Ba, 0, none⟩ = some (.int .i64 (a : Int))) :
  Calls Try.prog 185 #[.slice A (ints l).length c, .func (.func 186) #[] #[.pointer (some ⟨Bw, 0, none⟩), .pointer (some ⟨Ba, 0, none⟩)]] w fun e w' =>
   e = .returned (.bool (l.any fun b => crossB l0 b a)) ∧ ∃ nd, w' = w.drewN nd := by
 have HI := Aside0.mk (idxF_ge (fun b => crossB l0 b a) l 0)
 have HW := Aside0.mk hw
 have HN := Aside0.mk hn
 have HR := Aside0.mk hr
 have HC := Aside0.mk hc0
 have HL := Aside0.mk hl
 have HLL := Aside0.mk hL
 have H1 := Aside0.mk h1
 have H3 := Aside0.mk h3
 clear hw hn hr hc0 hl hL h1 h3
 go_enter Try.func185, Try.ntmps185
 go_wp2_with (first | (go_at_call 132; refine (classes_IndexFunc l0 HW.out A0 c0 n Bw Ba a HN.out HC.out ha l HL.out hll A c _ HR.out HLL.out H1.out H3.out).mono ?_; rintro e w1 ⟨rfl, ⟨nd, rfl⟩⟩))
 go_ret
 exact ⟨by rw [← HI.out]; rfl, _, rfl⟩

/-- The cells of classes' literal. -/
structure KEnv (w : World) (l0 : List Int) (A0 : Option Addr) (c0 m Bo Bm Bw Br : Nat) : Prop where
 co : w.cell? ⟨Bo, 0, none⟩ = some (.slice (some ⟨Br, 0, none⟩) m m)
 cm : w.cell? ⟨Bm, 0, none⟩ = some (.func (.func 184) #[] #[.pointer (some ⟨Bw, 0, none⟩), .pointer (some ⟨Bo, 0, none⟩), .pointer (some ⟨Bm, 0, none⟩)])
 cw : w.cell? ⟨Bw, 0, none⟩ = some (.slice A0 l0.length c0)
 n2 : Bo ≠ Br
 n3 : Bm ≠ Br
 n4 : Bw ≠ Br
 rd : Kd.F (Kd.int .i64) w (fun k => k ≠ Br) A0 l0.length l0
 lt : Br < w.heap.size
theorem KEnv.grown {w w' : World} {l0 : List Int} {A0 : Option Addr} {c0 m Bo Bm Bw Br : Nat} (h : KEnv w l0 A0 c0 m Bo Bm Bw Br) (hg : w.grownBy w' (some Br)) : KEnv w' l0 A0 c0 m Bo Bm Bw Br :=
 ⟨hg.cell h.co (fun e => h.n2 (Option.some.inj e)), hg.cell h.cm (fun e => h.n3 (Option.some.inj e)), hg.cell h.cw (fun e => h.n4 (Option.some.inj e)), h.n2, h.n3, h.n4,
  Kd.F_grown h.rd hg (fun k hk e => hk (Option.some.inj e)), Nat.lt_of_lt_of_le h.lt hg.size⟩
set_option maxHeartbeats 1500000 in
set_option maxRecDepth 100000 in
theorem classes_1_end (l0 : List Int) (A0 : Option Addr) (c0 n m Bo Bm Bw Br : Nat) (hn : n = l0.length / 2) (hle : l0.length ≤ 12) (hc0 : l0.length ≤ c0) (j : Nat) (out : List Int) (A : Option Addr) (c : Nat) (w : World) (E : KEnv w l0 A0 c0 m Bo Bm Bw Br)
  (hm : out.length = m) (hr : w.heap[Br]? = some (.cells (nums .i64 out).toArray 2 (0, 0))) (hj : j < m) :
  Calls Try.prog 184 #[.int .i64 (n : Int), .slice A j c, .pointer (some ⟨Bw, 0, none⟩), .pointer (some ⟨Bo, 0, none⟩), .pointer (some ⟨Bm, 0, none⟩)] w fun e w' =>
   e = .returned (.tuple #[]) ∧ w.grownBy w' (some Br) ∧ w'.heap[Br]? = some (.cells (nums .i64 (out.set j (wrap64 (out.getD j 0 + 1)))).toArray 2 (0, 0)) := by
 have hch : impl_chords.f l0 = some (n : Int) := by rw [hn]; exact chords_f l0 hle
 have CH := Aside0.mk hch
 have HC := Aside0.mk hc0
 have HR := Aside0.mk hr
 have HM := Aside0.mk hm
 have HE := Aside0.mk E
 clear hr hm E hch hn hle hc0
 obtain ⟨w1, hw1⟩ : ∃ w1, w1 = w.alloc (.cells #[.int .i64 (n : Int)] 2 (0, 0)) := ⟨_, rfl⟩
 have HG1 := Aside0.mk (show w.grownBy w1 (some Br) from by rw [hw1]; exact grown_alloc (grown_refl _ _) _)
 have HE1 := Aside0.mk (HE.out.grown HG1.out)
 have hi := show w1.cell? ⟨w.heap.size, 0, none⟩ = some (.int .i64 (n : Int)) from by rw [hw1]; exact cell1 (new_at rfl)
 have hcw := HE1.out.cw
 have HR1 := Aside0.mk (show w1.heap[Br]? = some (.cells (nums .i64 out).toArray 2 (0, 0)) from by rw [hw1]; exact blk_alloc HR.out _)
 go_enter Try.func184, Try.ntmps184
 go_wp2
 rw [← hw1]
 have HW1 := Aside0.mk hw1
 clear hw1
 go_quiet ((go_at_call 173; exact Calls.quiet_of ((impl_chords.calls A0 c0 l0 _ _ (Kd.C_drewN (Kd.F_now HE1.out.rd) _) HC.out CH.out).mono (fun _ _ h => ⟨h.1, h.2.out⟩))))
 have HE2 := Aside0.mk (HE1.out.grown (grown_drewN (grown_refl _ _) nq))
 have HR2 := Aside0.mk (show (w1.drewN nq).heap[Br]? = some (.cells (nums .i64 out).toArray 2 (0, 0)) from blk_drewN HR1.out _)
 have h2 := HE2.out.co
 have hx := blk_cell HR2.out j
 rw [nums_get out _ (by rw [HM.out]; exact hj)] at hx
 have hfz := blk_frozen HR2.out j
 clear hi hcw
 go_wp2
 (try simp only [Exit.inBlock, Exit.then])
 refine bodyPost_ret (results_none rfl _ _ _) rfl ?_
 exact ⟨rfl, grown_set (grown_drewN HG1.out _) _ _, by rw [blk_set HR2.out, nums_set, List.getD_eq_getElem?_getD]⟩
/-- What the search for divisions leaves in the counts. -/
def classV (w : List Int) : List Int := clsP (fun i a => crossB w a i) (w.length / 2) 0 [] (List.replicate (w.length / 2 + 1) 0)
def impl_classes.f (l0 : List Int) : Option (List Int) := if isW l0 = true then some (classV l0) else none
set_option maxHeartbeats 4000000 in
set_option maxRecDepth 100000 in
theorem classes_1 (l0 : List Int) (hw : Word l0) (A0 : Option Addr) (c0 n m Bo Bm Bw Br : Nat) (hn : n = l0.length / 2) (hmn : m = n + 1) (hc0 : l0.length ≤ c0) : ∀ (d i : Nat) (L : List (List Nat)) (out : List Int) (A : Option Addr) (c : Nat) (w : World), i + d = n →
  KEnv w l0 A0 c0 m Bo Bm Bw Br → out.length = m → w.heap[Br]? = some (.cells (nums .i64 out).toArray 2 (0, 0)) → (∀ s ∈ L, s.length ≤ i ∧ ∀ x ∈ s, x < i) → L.length ≤ i → Kd.F (Kd.slice 2 (Kd.int .i64)) w (fun k => k ≠ Br) A L.length (L.map ints) → L.length ≤ c →
  Calls Try.prog 184 #[.int .i64 (i : Int), .slice A L.length c, .pointer (some ⟨Bw, 0, none⟩), .pointer (some ⟨Bo, 0, none⟩), .pointer (some ⟨Bm, 0, none⟩)] w fun e w' =>
   e = .returned (.tuple #[]) ∧ w.grownBy w' (some Br) ∧ w'.heap[Br]? = some (.cells (nums .i64 (clsP (fun i a => crossB l0 a i) d i L out)).toArray 2 (0, 0)) := by
 have hle := hw.le
 intro d
 induction d with
 | zero =>
  intro i L out A c w hi E ho hr hs hL hF hc
  obtain rfl : i = n := by omega
  exact classes_1_end l0 A0 c0 i m Bo Bm Bw Br hn hle hc0 L.length out A c w E ho hr (by omega)
 | succ d ih =>
  intro i L out A c w hi E ho hr hs hL hF hc
  have hch : impl_chords.f l0 = some (n : Int) := by rw [hn]; exact chords_f l0 hle
  have CH := Aside0.mk hch
  have HW := Aside0.mk hw
  have HN := Aside0.mk hn
  have HMN := Aside0.mk hmn
  have HC0 := Aside0.mk hc0
  have HI := Aside0.mk hi
  have HE := Aside0.mk E
  have HO := Aside0.mk ho
  have HR := Aside0.mk hr
  have HS := Aside0.mk hs
  have HL := Aside0.mk hL
  have HF := Aside0.mk hF
  have HC := Aside0.mk hc
  have HIH := Aside0.mk ih
  have hi6 : i < 6 := by omega
  have t0 : ((i : Int) == (n : Int)) = false := by simp; omega
  have W1 := Aside0.mk (show IntKind.i64.wrap ((i : Int) + 1) = ((i + 1 : Nat) : Int) from (i64_w _).trans (wS (by omega)))
  obtain ⟨w1, hw1⟩ : ∃ w1, w1 = w.alloc (.cells #[.int .i64 (i : Int)] 2 (0, 0)) := ⟨_, rfl⟩
  have HG1 := Aside0.mk (show w.grownBy w1 (some Br) from by rw [hw1]; exact grown_alloc (grown_refl _ _) _)
  have HE1 := Aside0.mk (HE.out.grown HG1.out)
  have hib := show w1.cell? ⟨w.heap.size, 0, none⟩ = some (.int .i64 (i : Int)) from by rw [hw1]; exact cell1 (new_at rfl)
  have hcw := HE1.out.cw
  clear hw hn hmn hc0 hi E ho hr hs hL hF hc ih hch hle
  go_enter Try.func184, Try.ntmps184
  go_wp2
  rw [← hw1]
  have HW1 := Aside0.mk hw1
  clear hw1
  go_quiet ((go_at_call 173; exact Calls.quiet_of ((impl_chords.calls A0 c0 l0 _ _ (Kd.C_drewN (Kd.F_now HE1.out.rd) _) HC0.out CH.out).mono (fun _ _ h => ⟨h.1, h.2.out⟩))))
  go_wp2_with fail
  have HG2 := Aside0.mk (grown_drewN HG1.out nq)
  have HR2 := Aside0.mk (show (w1.drewN nq).heap[Br]? = some (.cells (nums .i64 out).toArray 2 (0, 0)) from blk_drewN (by rw [HW1.out]; exact blk_alloc HR.out _) _)
  go_loopw [23] (fun s wr => ∃ t : Nat, s = .int .i64 (t : Int) ∧ Aside0 (t ≤ L.length) ∧ Aside0 (w.grownBy wr (some Br)) ∧ Aside0 (wr.cell? ⟨w.heap.size, 0, none⟩ = some (.int .i64 (i : Int))) ∧ Aside0 (wr.heap[Br]? = some (.cells (nums .i64 (clsTo (fun i a => crossB l0 a i) d i L out t)).toArray 2 (0, 0))))
   (fun s _ => L.length - (intOf s).toNat)
  case atStart => exact ⟨0, rfl, ⟨Nat.zero_le _⟩, HG2, ⟨by have := hib; simpa using this⟩, HR2⟩
  case round =>
   clear hib hcw
   obtain ⟨t, rfl, HT, HG, HB, HH⟩ := hrel
   have HE3 := Aside0.mk (HE.out.grown HG.out)
   have hib := HB.out
   have hcw := HE3.out.cw
   have hcm := HE3.out.cm
   have HF3 := Aside0.mk (Kd.F_grown HF.out HG.out (fun k hk e => hk (Option.some.inj e)))
   by_cases hlt : t < L.length
   ·have s1 : decide ((t : Int) < (L.length : Int)) = true := decide_eq_true (by omega)
    have s2 : decide (t < L.length) = true := decide_eq_true hlt
    have HLT := Aside0.mk hlt
    obtain ⟨adl, At, ct, eal, hrow, hct, hCt⟩ := at_L1 (Kd.F_now HF3.out) (t : Int) (by omega) (by omega)
    subst eal
    rw [Int.toNat_natCast] at hrow
    have HF3M := Aside0.mk (show Kd.F (Kd.slice 2 (Kd.int .i64)) wr (fun k => k ≠ Br) (some adl) (L.map ints).length (L.map ints) from by rw [List.length_map]; exact HF3.out)
    have HCM := Aside0.mk (show (L.map ints).length ≤ c from by rw [List.length_map]; exact HC.out)
    have HLM := Aside0.mk (show (L.map ints).length ≤ 1000000 from by rw [List.length_map]; have := HL.out; omega)
    have HLE := Aside0.mk (show (L.map ints).length = L.length from List.length_map _)
    obtain ⟨s, hs⟩ : ∃ s, s = L.getD t [] := ⟨_, rfl⟩
    have hrd : rd_L1 (L.map ints) (t : Int) = ints s := by
     unfold rd_L1
     rw [Int.toNat_natCast, hs, List.getD_eq_getElem?_getD, List.getElem?_map, List.getD_eq_getElem?_getD, List.getElem?_eq_getElem hlt]; rfl
    rw [hrd] at hrow hct hCt
    have HSS := Aside0.mk (show s.length ≤ i ∧ ∀ x ∈ s, x < i from HS.out s (by rw [hs, List.getD_eq_getElem?_getD, List.getElem?_eq_getElem hlt]; exact List.getElem_mem _))
    have HCT := Aside0.mk hct
    have HCR := Aside0.mk hCt
    have HSD := Aside0.mk hs
    clear hct hCt hs hrd hlt
    have hin : i < n := by have := HI.out; omega
    have hlt2 := HLT.out
    have HX := Aside0.mk (show indep (fun i a => crossB l0 a i) s i = !(s.any fun b => crossB l0 b i) from by
     unfold indep; rw [List.all_eq_not_any_not]; simp)
    cases hv : (s.any fun b => crossB l0 b i) with
    | true =>
     have HV := Aside0.mk hv
     clear hv
     go_wp2_with (first | (go_at_call 185; refine (classes_ContainsFunc l0 HW.out A0 c0 n Bw w.heap.size i HN.out HC0.out hin s (fun b hb => by have := HSS.out.2 b hb; omega) (by have := HSS.out.1; omega) At ct _ (Kd.F_now HE3.out.rd) HCR.out hcw hib).mono ?_; rintro e w2 ⟨rfl, ⟨nd, rfl⟩⟩; rw [HV.out]))
     go_roundw
     case rel => exact ⟨t + 1, congrArg _ (wS (by have := HLT.out; have := HL.out; omega)), ⟨HLT.out⟩, ⟨grown_drewN HG.out _⟩, ⟨by have := hib; simpa using this⟩, ⟨by rw [clsTo_succ, ← HSD.out, HX.out, HV.out, Bool.not_true, if_neg (by simp)]; exact blk_drewN HH.out _⟩⟩
     case measure => have := HLT.out; have := HL.out; rw [wS (by omega)]; simp [intOf]; omega
    | false =>
     have HV := Aside0.mk hv
     clear hv
     go_wp2_with (first | (go_at_call 185; refine (classes_ContainsFunc l0 HW.out A0 c0 n Bw w.heap.size i HN.out HC0.out hin s (fun b hb => by have := HSS.out.2 b hb; omega) (by have := HSS.out.1; omega) At ct _ (Kd.F_now HE3.out.rd) HCR.out hcw hib).mono ?_; rintro e w2 ⟨rfl, ⟨nd, rfl⟩⟩; rw [HV.out]) | (go_at_call 188; refine (calls_len0 HLE.out (slices_Clone_rows_int64.calls (fun k => k ≠ Br) (some adl) c (L.map ints) _ (Kd.F_drewN HF3M.out _) HCM.out HLM.out)).mono ?_; rintro e w4 ⟨v4, rfl, ho4, hb4⟩; have HO4 := Aside0.mk ho4; have HB4 := Aside0.mk hb4; clear ho4 hb4; obtain ⟨An, cn, rfl⟩ := Kd.N_slice HO4.out))
     obtain ⟨g, cg, egn, hLc, hgb, hgl, hgo⟩ := N_head HO4.out (by rw [List.length_map]; omega)
     obtain ⟨rfl, rfl⟩ : An = some ⟨g, 0, none⟩ ∧ cn = cg := by injection egn with e1 e2 e3; exact ⟨e1, e3⟩
     have HGL := Aside0.mk hgl
     have HGB := Aside0.mk hgb
     have HGW := Aside0.mk (show w.heap.size ≤ g from by have := HG.out.size; have h3 : (wr.drewN nd).heap.size = wr.heap.size := rfl; omega)
     have HLC := Aside0.mk hLc
     have h4 : w.heap.size < wr.heap.size := World.block_lt_of_cell? wr _ hib
     have HWL := Aside0.mk h4
     have HGI := Aside0.mk (show w.heap.size < g from by have h3 : (wr.drewN nd).heap.size = wr.heap.size := rfl; omega)
     clear h4
     have HGR := Aside0.mk (show Br < g from by have := HE3.out.lt; have h3 : (wr.drewN nd).heap.size = wr.heap.size := rfl; omega)
     have HW4 := Aside0.mk (grown_trans (grown_drewN HG.out nd) (gb_of_below HB4.out (some Br)))
     have HE4 := Aside0.mk (HE.out.grown HW4.out)
     have hib4 := show w4.cell? ⟨w.heap.size, 0, none⟩ = some (.int .i64 (i : Int)) from (gb_of_below HB4.out none).cell (by have := hib; simpa using this) (by simp)
     have HC4 := Aside0.mk (Kd.C_below (Kd.C_drewN HCR.out nd) HB4.out)
     have HH4 := Aside0.mk (show w4.heap[Br]? = some (.cells (nums .i64 (clsTo (fun i a => crossB l0 a i) d i L out t)).toArray 2 (0, 0)) from (HB4.out.block Br (by have := HE3.out.lt; exact this)).trans (blk_drewN HH.out _))
     have HXN := Aside0.mk (show (ints s).length ≤ 6 from by rw [ints_len]; have := HSS.out.1; omega)
     clear hLc hgb hgl hgo egn hib hcw hcm
     obtain ⟨i0, hi0, hz0, hz1, hz2⟩ := info_parts info2
     go_region_law (first
      | (refine goes_ Try.func189 (by kernel_rfl) rfl #[.slice At (ints s).length ct] (by rfl) rfl rfl (by simp [Act.eval, Act.put]) ?_; refine (slices_Clip_int64_int64.calls At (ints s).length ct _ HCT.out).mono ?_; rintro e w2 ⟨rfl, rfl⟩; refine ⟨_, rfl, ?_⟩)
      | (refine step_append_full rfl (.tmp 37) (.tmp 39) 22 2 rfl Try.underlying22 info2 At (ints s).length 1 w4.heap.size (ints s) [(i : Int)] ?p1 ?p2 ?p3 ?p4 rfl (by decide) ?p5 ?_; (case p1 => simp [Act.eval, Act.put]); (case p2 => simp [Act.eval, Act.put]); (case p3 => repeat (first | exact HC4.out | (with_reducible refine Kd.C_alloc ?_ _) | (with_reducible refine Kd.C_drewN ?_ _) | (with_reducible refine Kd.C_drew ?_))); (case p4 => repeat (first | exact heap_alloc_new _ _ | (with_reducible refine blk_drewN ?_ _) | (with_reducible refine blk_drew ?_))); (case p5 => have := HXN.out; omega); intro v1 w2 ho2 hg2; obtain ⟨A2, c2, rfl, hl2, _⟩ := Kd.R_reads ho2; have HGN := Aside0.mk (grown_trans (show w4.grownBy _ none from by repeat (first | exact grown_refl _ _ | (with_reducible refine grown_alloc ?_ _) | (with_reducible refine grown_drewN ?_ _) | (with_reducible refine grown_drew ?_))) hg2); have HF2 := Aside0.mk (Kd.F_mono (ok' := fun k => w4.heap.size ≤ k) (Kd.R_F ho2) (fun q hq => by simp at hq; omega)); have HL2 := Aside0.mk hl2; have HN2 := Aside0.mk (Kd.N_below HO4.out (grown_below HGN.out)); clear ho2 hg2 hl2; obtain ⟨u2, hcx, hfx⟩ := N_cell HN2.out rfl t (by rw [List.length_map]; exact hlt2)))
     all_goals
      obtain ⟨w5, hw5⟩ : ∃ w5, w5 = w2.setCell ⟨g, t, none⟩ (.slice A2 ((ints s).length + 1) c2) := ⟨_, rfl⟩
      rw [← hw5]
      have HN5 := Aside0.mk (show Kd.N (Kd.slice 2 (Kd.int .i64)) 22 w5 (wr.drewN nd).heap.size (fun k => k ≠ Br ∨ (wr.drewN nd).heap.size ≤ k) (.slice (some ⟨g, 0, none⟩) (L.map ints).length cn) ((L.map ints).set t (ints s ++ [(i : Int)])) from by
       rw [hw5, show (ints s).length + 1 = (ints s ++ [(i : Int)]).length from by simp]
       exact N_put HN2.out rfl t (by rw [HLE.out]; exact hlt2) _ _ (Kd.FK_slice_mk HL2.out HF2.out) (fun k hk => ⟨.inr (Nat.le_trans HB4.out.size hk), by have := HGL.out; omega⟩))
      have HG5 := Aside0.mk (show w.grownBy w5 (some Br) from by rw [hw5]; exact grown_put_new (grown_trans HW4.out (grown_of_none HGN.out _)) HGW.out _ _)
      have HE5 := Aside0.mk (HE.out.grown HG5.out)
      have hib5 := show w5.cell? ⟨w.heap.size, 0, none⟩ = some (.int .i64 (i : Int)) from by
       rw [hw5, cell_far (by have := HGI.out; simp; omega)]
       exact HGN.out.cell hib4 (by simp)
      have HH5 := Aside0.mk (show w5.heap[Br]? = some (.cells (nums .i64 (clsTo (fun i a => crossB l0 a i) d i L out t)).toArray 2 (0, 0)) from by
       rw [hw5]
       exact blk_far ((HGN.out.block Br HE4.out.lt (by simp)).trans HH4.out) (by have := HGR.out; simp; omega) _)
      have hcm5 := HE5.out.cm
      clear hw5 hcx hfx hib4
      go_wp2_with fail
      have HSI := Aside0.mk (show (L.map ints).set t (ints s ++ [(i : Int)]) = (into L t i).map ints from by unfold into; rw [List.map_set, ← HSD.out, ints_app]; rfl)
      have HIL := Aside0.mk (show (into L t i).length = L.length from into_len L t i)
      have HF5 := Aside0.mk (show Kd.F (Kd.slice 2 (Kd.int .i64)) w5 (fun k => k ≠ Br) (some ⟨g, 0, none⟩) (into L t i).length ((into L t i).map ints) from by
       have h := Kd.N_F HN5.out
       rw [HSI.out] at h
       rw [HIL.out, ← HLE.out]
       exact Kd.F_mono h (fun k hk => by rcases hk with hk | hk; exact hk; have h3 : (wr.drewN nd).heap.size = wr.heap.size := rfl; have := HE3.out.lt; omega))
      refine calls_args (as' := #[.int .i64 ((i + 1 : Nat) : Int), .slice (some ⟨g, 0, none⟩) (into L t i).length cn, .pointer (some ⟨Bw, 0, none⟩), .pointer (some ⟨Bo, 0, none⟩), .pointer (some ⟨Bm, 0, none⟩)]) (by rw [HIL.out]; rfl) ?_
      refine (HIH.out (i + 1) (into L t i) _ (some ⟨g, 0, none⟩) cn w5 (by have := HI.out; omega) HE5.out (by rw [clsTo_len, HO.out]) HH5.out (into_small HS.out t) (by rw [HIL.out]; have := HL.out; omega) HF5.out (by rw [HIL.out, ← HLE.out]; exact HLC.out)).mono ?_
      rintro e w6 ⟨rfl, hg6, hr6⟩
      have HG6 := Aside0.mk (grown_trans HG5.out hg6)
      have hib6 := hg6.cell hib5 (fun e => by have := HGI.out; have := HE.out.lt; injection e with e; simp at e; omega)
      have HB6 := Aside0.mk hib6
      have HR6 := Aside0.mk hr6
      clear hg6 hr6 hib5 hib6 hcm5
      go_wp2
      go_roundw
      case rel => exact ⟨t + 1, congrArg _ (wS (by have := HLT.out; have := HL.out; omega)), ⟨HLT.out⟩, ⟨HG6.out⟩, ⟨HB6.out⟩, ⟨by rw [clsTo_succ, ← HSD.out, HX.out, HV.out, Bool.not_false, if_pos rfl]; exact HR6.out⟩⟩
      case measure => have := HLT.out; have := HL.out; rw [wS (by omega)]; simp [intOf]; omega
   ·have s1 : decide ((t : Int) < (L.length : Int)) = false := decide_eq_false (by omega)
    have s2 : decide (t < L.length) = false := decide_eq_false hlt
    have HTL := Aside0.mk (show t = L.length from by have := HT.out; omega)
    have h4 : w.heap.size < wr.heap.size := World.block_lt_of_cell? wr _ hib
    have HNB := Aside0.mk (show wr.heap.size ≠ Br from by have := HE3.out.lt; omega)
    have HWL := Aside0.mk h4
    have HL6 := Aside0.mk (show L.length ≤ 6 from by have := HL.out; omega)
    clear h4 hlt hcw
    have hm0 : ∀ W, wr.grownBy W (some Br) → W.cell? ⟨Bm, 0, none⟩ = some (.func (.func 184) #[] #[.pointer (some ⟨Bw, 0, none⟩), .pointer (some ⟨Bo, 0, none⟩), .pointer (some ⟨Bm, 0, none⟩)]) := fun W hg => (HE3.out.grown hg).cm
    have hi0 : ∀ W, wr.grownBy W (some Br) → W.cell? ⟨w.heap.size, 0, none⟩ = some (.int .i64 (i : Int)) := fun W hg => hg.cell HB.out (fun e => by have := HE.out.lt; injection e with e; simp at e; omega)
    have HRI := Aside0.mk (show ∀ (W : World), wr.grownBy W none → W.heap[Br]? = some (.cells (nums .i64 (clsTo (fun i a => crossB l0 a i) d i L out t)).toArray 2 (0, 0)) from fun W hg => (hg.block Br HE3.out.lt (by simp)).trans HH.out)
    have HCALL := Aside0.mk (show ∀ (A2 : Option Addr) (c2 : Nat) (w2 : World), wr.grownBy w2 none → Kd.F (Kd.slice 2 (Kd.int .i64)) w2 (fun k => k ≠ Br) A2 (L.map ints ++ [[(i : Int)]]).length (L.map ints ++ [[(i : Int)]]) → (L.map ints ++ [[(i : Int)]]).length ≤ c2 →
      Calls Try.prog 184 #[.int .i64 ((i + 1 : Nat) : Int), .slice A2 (L.length + 1) c2, .pointer (some ⟨Bw, 0, none⟩), .pointer (some ⟨Bo, 0, none⟩), .pointer (some ⟨Bm, 0, none⟩)] w2 fun e w' => e = .returned (.tuple #[]) ∧ wr.grownBy w' (some Br) ∧ w'.heap[Br]? = some (.cells (nums .i64 (clsP (fun i a => crossB l0 a i) d (i + 1) (L ++ [[i]]) (clsTo (fun i a => crossB l0 a i) d i L out t))).toArray 2 (0, 0)) from by
     intro A2 c2 w2 hg hf hl
     refine calls_args (as' := #[.int .i64 ((i + 1 : Nat) : Int), .slice A2 (L ++ [[i]]).length c2, .pointer (some ⟨Bw, 0, none⟩), .pointer (some ⟨Bo, 0, none⟩), .pointer (some ⟨Bm, 0, none⟩)]) (by simp) ?_
     refine (HIH.out (i + 1) (L ++ [[i]]) _ A2 c2 w2 (by have := HI.out; omega) (HE3.out.grown (grown_of_none hg _)) (by rw [clsTo_len, HO.out]) (HRI.out _ hg) (new_small HS.out) (by simp; have := HL.out; omega) (by simpa [ints] using hf) (by simpa using hl)).mono ?_
     rintro e w3 ⟨rfl, hg3, hr3⟩
     exact ⟨rfl, grown_trans (grown_of_none hg _) hg3, hr3⟩)
    go_wp2_with fail
    go_region_held3 (fun W => wr.grownBy W (some Br)) (repeat (first | assumption | exact grown_refl _ _ | (with_reducible refine grown_alloc ?_ _) | (with_reducible refine grown_drewN ?_ _) | (with_reducible refine grown_drew ?_))) (first
     | (refine goes_ Try.func190 (by kernel_rfl) rfl #[.slice A L.length c] (by rfl) rfl rfl (by simp [Act.eval, Act.put]) ?_; refine (slices_Clip_rows_int64.calls A L.length c _ HC.out).mono ?_; rintro e w2 ⟨rfl, rfl⟩; refine ⟨_, rfl, ?_⟩)
     | (refine callv_ Try.func184 (by kernel_rfl) rfl #[.pointer (some ⟨Bw, 0, none⟩), .pointer (some ⟨Bo, 0, none⟩), .pointer (some ⟨Bm, 0, none⟩)] #[.int .i64 ((i + 1 : Nat) : Int), .slice A2 (L.length + 1) c2] _ (by rfl) rfl rfl ?q1 ?q2 rfl ?_; (case q1 => simp [Act.eval, Act.put]); (case q2 => simp [Act.eval, Act.put]; exact W1.out); refine (HCALL.out A2 c2 w2 HGN.out HF2.out HL2.out).mono ?_; rintro e w3 ⟨rfl, hg3, hr3⟩; refine ⟨_, rfl, ?_⟩; have HG3 := Aside0.mk (grown_trans HG.out hg3); have HR3 := Aside0.mk hr3; clear hr3)
     | (refine step_append_full_rows (Kd.slice 2 (Kd.int .i64)) rfl rfl (.tmp 52) (.tmp 55) 23 22 (.slice none 0 0) 24 rfl Try.underlying23 info_rowsc rfl (fun k => k ≠ Br) A L.length (wr.heap.size + 1) (L.map ints) [(i : Int)] (.slice (some ⟨wr.heap.size, 0, none⟩) 1 1) ?p1 ?p2 ?p3 ?p4 ?p5 ?p6 ?p7 ?_; (case p1 => simp [Act.eval, Act.put]); (case p2 => simp [Act.eval, Act.put]); (case p3 => repeat (first | exact HF3.out | (with_reducible refine Kd.F_alloc ?_ _) | (with_reducible refine Kd.F_drewN ?_ _) | (with_reducible refine Kd.F_drew ?_))); (case p4 => repeat (first | exact new_at (by simp) | (with_reducible refine blk_alloc ?_ _) | (with_reducible refine blk_drewN ?_ _) | (with_reducible refine blk_drew ?_))); (case p5 => exact Kd.FK_slice_mk (c := 1) (by simp) (F_of_block (e := 2) (by repeat (first | exact new_at (by simp) | (with_reducible refine blk_alloc ?_ _) | (with_reducible refine blk_drewN ?_ _) | (with_reducible refine blk_drew ?_))) rfl (by simp [maxLen]) HNB.out)); (case p6 => have := HL6.out; omega); (case p7 => have := HL6.out; omega); intro v1 w2 ho2 hg2; obtain ⟨A2, c2, rfl⟩ := Kd.N_slice ho2; have HGN := Aside0.mk (grown_trans (show wr.grownBy _ none from by repeat (first | exact grown_refl _ _ | (with_reducible refine grown_alloc ?_ _) | (with_reducible refine grown_drewN ?_ _) | (with_reducible refine grown_drew ?_))) hg2); have HF2 := Aside0.mk (Kd.F_mono (ok' := fun k => k ≠ Br) (Kd.N_F ho2) (fun q hq => by rcases hq with hq | hq; exact hq; have := HE3.out.lt; simp at hq; omega)); have HL2 := Aside0.mk (Kd.N_reads' ho2).2.1; clear ho2 hg2; have hgs2 := grown_of_none HGN.out (some Br)))
    all_goals
     go_wp2_with fail
     go_end0
     refine ⟨rfl, HG3.out, ?_⟩
     have h := HR3.out
     rw [HTL.out] at h
     rw [clsP]
     exact h
set_option maxHeartbeats 8000000 in
set_option maxRecDepth 100000 in
theorem impl_classes.calls (A0 : Option Addr) (c0 : Nat) (l0 : List Int) (r : List Int) (w : World) (hr0 : Kd.C (Kd.int .i64) w A0 l0.length l0) (hc0 : l0.length ≤ c0) (h : impl_classes.f l0 = some r) :
  Calls Try.prog 133 #[.slice A0 l0.length c0] w fun e w' => ∃ v0_ : Value, e = .returned v0_ ∧ Kd.R (Kd.int .i64) 2 w' w.heap.size (fun _ => True) v0_ r ∧ Below w.heap.size w w' := by
 have hf : isW l0 = true ∧ r = classV l0 := by
  unfold impl_classes.f at h
  by_cases hk : isW l0 = true
  ·rw [if_pos hk] at h; exact ⟨hk, (Option.some.inj h).symm⟩
  ·rw [if_neg hk] at h; exact absurd h (by simp)
 have hw := (isW_iff l0).1 hf.1
 have hle := hw.le
 have HW := Aside0.mk hw
 have HRR := Aside0.mk hf.2
 obtain ⟨n, hn⟩ : ∃ n, n = l0.length / 2 := ⟨_, rfl⟩
 have hch : impl_chords.f l0 = some (n : Int) := by rw [hn]; exact chords_f l0 hle
 obtain ⟨m, hm⟩ : ∃ m, m = n + 1 := ⟨_, rfl⟩
 have CH := Aside0.mk hch
 have HN := Aside0.mk hn
 have HM := Aside0.mk hm
 have hn6 : n ≤ 6 := by omega
 have hmk := make_ints (P := Try.prog) Try.underlying22 info2 ((n : Int) + 1) m (by omega) (by omega)
 have HR := Aside0.mk hr0
 have HC := Aside0.mk hc0
 clear hr0 hc0 h hf hw hle hch hn hm
 have hmf : ∀ (fn : Fn) (first cap : Array Value) (w : World), (Instr.makeFunc fn first cap).run Try.prog w = .ok (.func fn first cap) w := fun _ _ _ _ => rfl
 go_enter Try.func133, Try.ntmps133
 go_wp2_with (first | (go_at_call 173; refine (impl_chords.calls A0 c0 l0 _ _ (Kd.C_alloc HR.out _) HC.out CH.out).mono ?_; rintro e w' ⟨rfl, ⟨nd, rfl⟩⟩))
 refine (classes_1 l0 HW.out A0 c0 n m (w.heap.size + 1 + 1) (w.heap.size + 1 + 1 + 1) w.heap.size (w.heap.size + 1) HN.out HM.out HC.out n 0 [] (List.replicate m 0) none 0 _ (by omega) ?he (by simp) ?hh (by simp) (by simp) (Kd.F_nil _ _ _) (Nat.le_refl _)).mono ?_
 case he =>
  exact ⟨cell1 (by repeat (first | exact new_at (by simp) | refine blk_alloc ?_ _ | refine blk_drewN ?_ _)), cell1 (by repeat (first | exact new_at (by simp) | refine blk_alloc ?_ _ | refine blk_drewN ?_ _)), cell1 (by repeat (first | exact new_at (by simp) | refine blk_alloc ?_ _ | refine blk_drewN ?_ _)), by omega, by omega, by omega, by repeat (first | exact Kd.F_mono (F_of_C HR.out) (fun k hk => by omega) | refine Kd.F_alloc ?_ _ | refine Kd.F_drewN ?_ _), by simp⟩
 case hh => repeat (first | exact new_at (by simp) | refine blk_alloc ?_ _ | refine blk_drewN ?_ _)
 rintro e w2 ⟨rfl, hg, hr⟩
 have h2 := hg.cell (a := ⟨w.heap.size + 1 + 1, 0, none⟩) (v := .slice (some ⟨w.heap.size + 1, 0, none⟩) m m) (cell1 (by repeat (first | exact new_at (by simp) | refine blk_alloc ?_ _ | refine blk_drewN ?_ _))) (by simp)
 have HG := Aside0.mk hg
 have HH := Aside0.mk hr
 clear hg hr
 go_wp2
 go_ret
 refine ⟨_, rfl, ?_, ?_⟩
 ·have := HH.out
  rw [HRR.out, classV, ← HN.out, ← HM.out]
  exact R_of_block this (by rw [clsP_len]; simp) (by have := HM.out; unfold maxLen; omega) (by omega)
 ·exact below_grown (by repeat (first | exact Below.refl _ _ | apply below_alloc | apply pw_below_drewN)) HG.out (by omega)

end Go.Proofs.Ytnlhhbnoccobmaa.F
