/- What impl_longest answers, and that the Go text comes to it: for every world in which the arguments read as told. -/
import Derived.Test.YtfijnlbkflmkbaaFgA
import Derived.Test.YtfijnlbkflmkbaaFx155
import Derived.Test.YtfijnlbkflmkbaaFx156
import Derived.Test.YtfijnlbkflmkbaaPureE
import Derived.Test.YtfijnlbkflmkbaaPureFind
import Derived.Test.YtfijnlbkflmkbaaPureMem
import Derived.Deep.RegionWith
import Derived.Deep.RegionLawGrows
import Derived.Laws.EntriesVeiled
namespace Go.Proofs.Ytfijnlbkflmkbaa.F
open Go.RowKit Go.Proofs.YtfijnlbkflmkbaaW.PrintWords Go.Proofs.YtfijnlbkflmkbaaW.PrintLast Go.Proofs.YtfijnlbkflmkbaaW.PrintMore
attribute [local go_sem] max2_int min2_int max_two min_two max_three min_three max_four min_four   -- for this text's walks alone
set_option linter.unusedVariables false
set_option linter.unusedSimpArgs false

/-! ### impl_longest: function 112 (by hand) -/
open Go.Proofs.Ytfijnlbkflmkbaa.Pure Go.Proofs.Ytfijnlbkflmkbaa.Mem
def ints (l : List Nat) : List Int := l.map fun i : Nat => (i : Int)
theorem ints_len (l : List Nat) : (ints l).length = l.length := by simp [ints]
theorem ints_app (l m : List Nat) : ints (l ++ m) = ints l ++ ints m := by simp [ints]
theorem ints_contains (l : List Nat) (k : Nat) : (ints l).contains (k : Int) = l.contains k := by
 rw [Bool.eq_iff_iff, List.contains_iff_mem, List.contains_iff_mem]
 unfold ints
 rw [List.mem_map]
 constructor
 ·rintro ⟨a, ha, e⟩
  rw [show k = a from by omega]; exact ha
 ·exact fun h => ⟨k, h, rfl⟩
theorem ints_getD (l : List Nat) (j : Nat) (h : j < l.length) : (ints l).getD j 0 = ((l.getD j 0 : Nat) : Int) := by
 unfold ints
 rw [List.getD_eq_getElem?_getD, List.getD_eq_getElem?_getD, List.getElem?_map, List.getElem?_eq_getElem h]; rfl
theorem nats_len : ∀ (l : List Nat) (n : Nat), l.Nodup → (∀ x ∈ l, x < n) → l.length ≤ n := by
 have h : ∀ (l m : List Nat), l.Nodup → (∀ x ∈ l, x ∈ m) → l.length ≤ m.length := by
  intro l
  induction l with
  | nil => intro m _ _; exact Nat.zero_le _
  | cons a l ih =>
   intro m hd h
   have hn := List.nodup_cons.1 hd
   have ha := h a List.mem_cons_self
   have := ih (m.erase a) hn.2 (fun x hx => (List.mem_erase_of_ne (fun (e : x = a) => hn.1 (e ▸ hx))).2 (h x (List.mem_cons_of_mem _ hx)))
   rw [List.length_erase_of_mem ha] at this
   have := List.length_pos_of_mem ha
   rw [List.length_cons]; omega
 intro l n hd hu
 have := h l (List.range n) hd (fun x hx => List.mem_range.2 (hu x hx))
 simpa using this
theorem nats_app {l : List Nat} {k : Nat} (hd : l.Nodup) (h : l.contains k = false) : (l ++ [k]).Nodup := by
 rw [List.nodup_append]
 refine ⟨hd, List.nodup_cons.2 ⟨by simp, List.nodup_nil⟩, fun a hm b hb e => ?_⟩
 rw [List.mem_singleton] at hb; subst hb; subst e
 rw [List.contains_iff_mem.2 hm] at h; exact absurd h (by simp)
theorem nats_mem {l : List Nat} {k n : Nat} (hu : ∀ x ∈ l, x < n) (hk : k < n) : ∀ x ∈ l ++ [k], x < n := by
 intro x hx
 rcases List.mem_append.1 hx with h | h
 ·exact hu x h
 ·rw [List.mem_singleton] at h; omega
/-- Whether a chord may follow behind a chain, looked at up to its place j. -/
def fitTo (X : Nat → Nat → Bool) (ch : List Nat) (k : Nat) : Nat → Bool
 | 0 => !ch.contains k
 | j + 1 => fitTo X ch k j && (X (ch.getD j 0) k == decide (j + 1 = ch.length))
def fitB (X : Nat → Nat → Bool) (ch : List Nat) (k : Nat) : Bool := fitTo X ch k ch.length
theorem fitTo_contains {X : Nat → Nat → Bool} {ch : List Nat} {k : Nat} : ∀ {j : Nat}, fitTo X ch k j = true → ch.contains k = false
 | 0, h => by rw [fitTo] at h; simpa using h
 | j + 1, h => by rw [fitTo, Bool.and_eq_true] at h; exact fitTo_contains h.1
/-- The best chain behind those that begin with ch. -/
def longW (X : Nat → Nat → Bool) (n : Nat) : Nat → List Nat → List Nat → List Nat
 | 0, _, best => best
 | d + 1, ch, best => (List.range n).foldl (fun b k => if fitB X ch k = true then longW X n d (ch ++ [k]) b else b) (if ch.length > best.length then ch else best)
def longTo (X : Nat → Nat → Bool) (n d : Nat) (ch best : List Nat) (j : Nat) : List Nat := (List.range j).foldl (fun b k => if fitB X ch k = true then longW X n d (ch ++ [k]) b else b) (if ch.length > best.length then ch else best)
theorem longTo_succ (X : Nat → Nat → Bool) (n d : Nat) (ch best : List Nat) (j : Nat) : longTo X n d ch best (j + 1) = if fitB X ch j = true then longW X n d (ch ++ [j]) (longTo X n d ch best j) else longTo X n d ch best j := by
 unfold longTo; rw [List.range_succ, List.foldl_append]; rfl
theorem longW_len (X : Nat → Nat → Bool) (n : Nat) : ∀ (d : Nat) (ch best : List Nat), best.length ≤ n → ch.Nodup → (∀ x ∈ ch, x < n) → (longW X n d ch best).length ≤ n
 | 0, _, _, h, _, _ => h
 | d + 1, ch, best, h, hd, hm => by
  rw [longW]
  suffices g : ∀ (l : List Nat) (b : List Nat), (∀ a ∈ l, a < n) → b.length ≤ n → (l.foldl (fun b k => if fitB X ch k = true then longW X n d (ch ++ [k]) b else b) b).length ≤ n from g _ _ (fun a ha => List.mem_range.1 ha) (by have := nats_len ch n hd hm; split <;> assumption)
  intro l
  induction l with
  | nil => exact fun b _ hb => hb
  | cons a l ih =>
   intro b ha hb
   rw [List.foldl_cons]
   refine ih _ (fun x hx => ha x (List.mem_cons_of_mem _ hx)) ?_
   split
   ·rename_i hf
    exact longW_len X n d _ _ hb (nats_app hd (fitTo_contains hf)) (nats_mem hm (ha a List.mem_cons_self))
   ·exact hb
def longV (w : List Int) : List Int := ints (longW (crossB w) (w.length / 2) (w.length / 2 + 1) [] [])
def impl_longest.f (l0 : List Int) : Option (List Int) := if isW l0 = true then some (longV l0) else none
/-- What the closure finds in memory. -/
structure LEnv (w : World) (l0 : List Int) (A0 : Option Addr) (c0 n Bb Bm Bw base : Nat) (best : List Nat) : Prop where
 cb : ∃ v, w.cell? ⟨Bb, 0, none⟩ = some v ∧ Kd.R (Kd.int .i64) 2 w base (fun k => k ≠ Bb) v (ints best)
 fb : w.frozen? ⟨Bb, 0, none⟩ = false
 cm : w.cell? ⟨Bm, 0, none⟩ = some (.func (.func 157) #[] #[.pointer (some ⟨Bb, 0, none⟩), .pointer (some ⟨Bw, 0, none⟩), .pointer (some ⟨Bm, 0, none⟩)])
 cw : w.cell? ⟨Bw, 0, none⟩ = some (.slice A0 l0.length c0)
 n3 : Bm ≠ Bb
 n4 : Bw ≠ Bb
 rd : Kd.F (Kd.int .i64) w (fun k => k ≠ Bb) A0 l0.length l0
 lt : Bb < w.heap.size
 bs : base ≤ Bb
/-- Blocks made since, nothing written. -/
theorem LEnv.still {w w' : World} {l0 : List Int} {A0 : Option Addr} {c0 n Bb Bm Bw base : Nat} {best : List Nat} (h : LEnv w l0 A0 c0 n Bb Bm Bw base best) (hg : w.grownBy w' none) : LEnv w' l0 A0 c0 n Bb Bm Bw base best := by
 obtain ⟨v, hv, hR⟩ := h.cb
 exact ⟨⟨v, hg.cell hv (by simp), Kd.R_grown hR hg (fun _ _ => by simp)⟩, (hg.frozen_far _ h.lt (by simp)).trans h.fb, hg.cell h.cm (by simp), hg.cell h.cw (by simp), h.n3, h.n4, Kd.F_grown h.rd hg (fun _ _ => by simp), Nat.lt_of_lt_of_le h.lt hg.size, h.bs⟩
/-- A new best chain is laid. -/
theorem LEnv.put {w w1 : World} {l0 : List Int} {A0 : Option Addr} {c0 n Bb Bm Bw base : Nat} {best bst : List Nat} {v : Value} (h : LEnv w l0 A0 c0 n Bb Bm Bw base best) (hb : Below w.heap.size w w1) (ho : Kd.R (Kd.int .i64) 2 w1 w.heap.size (fun _ => True) v (ints bst)) :
  LEnv (w1.setCell ⟨Bb, 0, none⟩ v) l0 A0 c0 n Bb Bm Bw base bst ∧ w.grownBy (w1.setCell ⟨Bb, 0, none⟩ v) (some Bb) := by
 have h1 := h.still (w' := w1) ⟨hb.os, hb.tape, hb.output, hb.size, fun k hk _ => hb.block k hk⟩
 obtain ⟨u, hu, _⟩ := h1.cb
 have hg : w1.grownBy (w1.setCell ⟨Bb, 0, none⟩ v) (some Bb) := grown_set (grown_refl w1 _) 0 v
 have hlt := h.lt
 have hbs := h.bs
 refine ⟨⟨⟨v, World.cell?_setCell_same _ _ _ hu, Kd.R_far (Kd.R_mono (Kd.R_lower (Kd.R_bound ho) (by omega)) (ok' := fun k => k ≠ Bb) (fun k hk => by have := hk.2.1; omega)) (fun k hk => hk) v⟩, by rw [World.frozen?_setCell]; exact h1.fb, hg.cell h1.cm (fun e => h.n3 (Option.some.inj e)), hg.cell h1.cw (fun e => h.n4 (Option.some.inj e)), h.n3, h.n4, Kd.F_far h1.rd (fun k hk => hk) v, by simpa [World.setCell] using h1.lt, h.bs⟩, grown_trans (gb_of_below hb _) hg⟩
/-- What the closure leaves. -/
def LPost (w : World) (l0 : List Int) (A0 : Option Addr) (c0 n Bb Bm Bw base : Nat) (best : List Nat) (e : Ending) (w' : World) : Prop :=
 e = .returned (.tuple #[]) ∧ w.grownBy w' (some Bb) ∧ LEnv w' l0 A0 c0 n Bb Bm Bw base best
set_option maxHeartbeats 8000000 in
set_option maxRecDepth 100000 in
theorem longest_1 (l0 : List Int) (hw : Word l0) (A0 : Option Addr) (c0 n Bb Bm Bw base : Nat) (hn : n = l0.length / 2) (hc0 : l0.length ≤ c0) : ∀ (d : Nat) (ch best : List Nat) (A : Option Addr) (c : Nat) (w : World), ch.length + d = n + 1 →
  LEnv w l0 A0 c0 n Bb Bm Bw base best → best.length ≤ n → ch.Nodup → (∀ x ∈ ch, x < n) → Kd.F (Kd.int .i64) w (fun k => k ≠ Bb) A (ints ch).length (ints ch) → (ints ch).length ≤ c →
  Calls Try.prog 157 #[.slice A (ints ch).length c, .pointer (some ⟨Bb, 0, none⟩), .pointer (some ⟨Bw, 0, none⟩), .pointer (some ⟨Bm, 0, none⟩)] w (LPost w l0 A0 c0 n Bb Bm Bw base (longW (crossB l0) n d ch best)) := by
 have hw12 := hw.le
 intro d
 induction d with
 | zero =>
  intro ch best A c w hi E hb hd hu hF hc
  have := nats_len ch n hd hu
  omega
 | succ d ih =>
  intro ch best A c w hi E hb hd hu hF hc
  have hlen := nats_len ch n hd hu
  have hn6 : n ≤ 6 := by omega
  obtain ⟨vb, hvb, hRb⟩ := E.cb
  obtain ⟨Ab, cb, rfl, hbl, hbC⟩ := Kd.R_reads hRb
  have HW := Aside0.mk hw
  have HN := Aside0.mk hn
  have HC0 := Aside0.mk hc0
  have HI := Aside0.mk hi
  have HE := Aside0.mk E
  have HD := Aside0.mk hd
  have HU := Aside0.mk hu
  have HF := Aside0.mk hF
  have HC := Aside0.mk hc
  have HIH := Aside0.mk ih
  have HLE := Aside0.mk (ints_len ch)
  have HLB := Aside0.mk (ints_len best)
  have hil : (ints ch).length ≤ 6 := by rw [ints_len]; omega
  have hch : impl_chords.f l0 = some (n : Int) := by rw [hn]; exact chords_f l0 hw12
  have CH := Aside0.mk hch
  clear hw hn hc0 hi E hd hu hF hc ih hRb hbl hbC hch
  have hfz := HE.out.fb
  obtain ⟨bst, hbst⟩ : ∃ b, b = if ch.length > best.length then ch else best := ⟨_, rfl⟩
  have HBST := Aside0.mk hbst
  have HBL := Aside0.mk (show bst.length ≤ n from by rw [hbst]; split <;> omega)
  clear hbst
  suffices hsuf : ∀ Q : Ending → World → Prop, (∀ e w', LPost w l0 A0 c0 n Bb Bm Bw base (longW (crossB l0) n (d + 1) ch best) e w' → Q e w') → Calls Try.prog 157 #[.slice A (ints ch).length c, .pointer (some ⟨Bb, 0, none⟩), .pointer (some ⟨Bw, 0, none⟩), .pointer (some ⟨Bm, 0, none⟩)] w Q from hsuf _ (fun _ _ h => h)
  intro Q hQ
  have HQ := Aside0.mk hQ
  clear hQ
  by_cases hgt : (ints best).length < (ints ch).length
  have HBE := Aside0.mk (show bst = ch from by rw [HBST.out, if_pos (by rw [HLE.out, HLB.out] at hgt; exact hgt)])
  go_enter Try.func157, Try.ntmps157
  go_upto_region 2 with (first | (go_at_call 152; refine (slices_Clone_int64_int64.calls A c (ints ch) (ints ch) _ (Kd.F_now HF.out) HC.out (by unfold slices_Clone_int64_int64.f; rw [if_pos (by omega)])).mono ?_; rintro e w1 ⟨v0, rfl, ho1, hb1⟩; obtain ⟨A1, c1, rfl, hl1, _⟩ := Kd.R_reads ho1; have HO1 := Aside0.mk ho1; have HB1 := Aside0.mk hb1; have hx1 := (hb1.cell (p := ⟨Bb, 0, none⟩) HE.out.lt).trans hvb; have hfz1 := (hb1.frozen (p := ⟨Bb, 0, none⟩) HE.out.lt).trans hfz; clear ho1 hb1))
  have hp := HE.out.put (bst := bst) HB1.out (by rw [HBE.out]; exact HO1.out)
  have HE2 := Aside0.mk hp.1
  have HG2 := Aside0.mk hp.2
  clear hp hx1 hfz1 hvb hfz hgt HO1 HB1
  generalize w1.setCell ⟨Bb, 0, none⟩ (.slice A1 (ints ch).length c1) = w2 at HE2 HG2 ⊢
  rotate_left
  have HBE := Aside0.mk (show bst = best from by rw [HBST.out, if_neg (by rw [HLE.out, HLB.out] at hgt; exact hgt)])
  go_enter Try.func157, Try.ntmps157
  go_upto_region 2 with fail
  obtain ⟨w2, hw2⟩ : ∃ w2, w2 = w := ⟨w, rfl⟩
  have HE2 := Aside0.mk (show LEnv w2 l0 A0 c0 n Bb Bm Bw base bst from by rw [hw2, HBE.out]; exact HE.out)
  have HG2 := Aside0.mk (show w.grownBy w2 (some Bb) from by rw [hw2]; exact grown_refl _ _)
  rw [← hw2]
  clear hw2 hvb hfz hgt
  all_goals
   have h4 := HE2.out.cw
   go_wp2_with (first | (go_at_call 149; refine (impl_chords.calls A0 c0 l0 _ _ (Kd.F_now HE2.out.rd) HC0.out CH.out).mono ?_; rintro e w' ⟨rfl, ⟨nd, rfl⟩⟩))
   go_loopw [18] (fun s wr => ∃ k : Nat, s = .int .i64 (k : Int) ∧ Aside0 (k ≤ n) ∧ Aside0 (w.grownBy wr (some Bb)) ∧ Aside0 (LEnv wr l0 A0 c0 n Bb Bm Bw base (longTo (crossB l0) n d ch best k)) ∧ Aside0 ((longTo (crossB l0) n d ch best k).length ≤ n))
    (fun s _ => n - (intOf s).toNat)
   case atStart => exact ⟨0, rfl, ⟨Nat.zero_le _⟩, ⟨grown_drewN HG2.out _⟩, ⟨by unfold longTo; rw [List.range_zero, List.foldl_nil, ← HBST.out]; exact HE2.out.still (grown_drewN (grown_refl _ _) _)⟩, ⟨by unfold longTo; rw [List.range_zero, List.foldl_nil, ← HBST.out]; exact HBL.out⟩⟩
   case round =>
    clear h4
    obtain ⟨k, rfl, HK, HG, HE3, HL3⟩ := hrel
    have hF3 := Kd.F_grown HF.out HG.out (fun k hk e => hk (Option.some.inj e))
    have HF3 := Aside0.mk hF3
    have h3 := HE3.out.cm
    have h4 := HE3.out.cw
    clear hF3
    by_cases hlt : k < n
    ·have t1 : decide ((k : Int) < (n : Int)) = true := decide_eq_true (by omega)
     have t2 : decide (k < n) = true := decide_eq_true hlt
     have HKN := Aside0.mk hlt
     have hk6 : k < 6 := by omega
     clear hlt
     obtain ⟨b0, hb0⟩ : ∃ b, b = !ch.contains k := ⟨_, rfl⟩
     have HB0 := Aside0.mk hb0
     clear hb0
     go_wp2_with (first | (go_at_call 155; obtain ⟨q, hq⟩ := Ev.rounds (contains_ev (ints ch) (k : Int) (by omega)); refine (slices_Contains_int64_int64.calls q A c (ints ch) (k : Int) (!b0) _ (Kd.F_now HF3.out) HC.out (by rw [hq, HB0.out, ints_contains, Bool.not_not])).mono ?_; clear hq; rintro e w3 ⟨rfl, ⟨nd, rfl⟩⟩))
     obtain ⟨wo, hwo⟩ : ∃ wo, wo = wr := ⟨wr, rfl⟩
     subst hwo
     go_loopw [6, 27] (fun f s wq => ∃ (j : Nat) (b : Bool), s = .int .i64 (j : Int) ∧ f = .bool b ∧ Aside0 (b = fitTo (crossB l0) ch k j) ∧ Aside0 (j ≤ (ints ch).length) ∧ ∃ nd, wq = wo.drewN nd)
      (fun _ s _ => (ints ch).length - (intOf s).toNat)
     case atStart => exact ⟨0, b0, rfl, rfl, ⟨by rw [HB0.out, fitTo]⟩, ⟨Nat.zero_le _⟩, _, rfl⟩
     case round =>
      obtain ⟨j, b, rfl, rfl, HBJ, HJ, nd2, rfl⟩ := hrel
      by_cases hj : j < (ints ch).length
      ·have HJL := Aside0.mk hj
       have s1 : decide ((j : Int) < ((ints ch).length : Int)) = true := decide_eq_true (by omega)
       have s2 : decide (j < (ints ch).length) = true := decide_eq_true hj
       obtain ⟨ad, rfl, hcell⟩ := cell_of_C (Kd.F_now HF3.out) j hj
       rw [ints_getD ch j (by rw [← HLE.out]; exact hj)] at hcell
       obtain ⟨cj, hcj⟩ : ∃ cj, cj = ch.getD j 0 := ⟨_, rfl⟩
       rw [← hcj] at hcell
       have HCJ := Aside0.mk hcj
       have HCN := Aside0.mk (show cj < n from by rw [hcj]; exact HU.out _ (by rw [List.getD_eq_getElem?_getD, List.getElem?_eq_getElem (by rw [← HLE.out]; exact hj)]; exact List.getElem_mem _))
       clear hcj
       cases b with
       | false =>
        go_wp2_with fail
        go_roundw
        case rel => exact ⟨j + 1, false, rfl, rfl, ⟨by rw [fitTo, ← HBJ.out]; rfl⟩, ⟨HJL.out⟩, _, rfl⟩
        case measure => have := HJL.out; simp [intOf]; omega
       | true =>
        obtain ⟨x, hx⟩ : ∃ x, x = crossB l0 cj k := ⟨_, rfl⟩
        have HX := Aside0.mk hx
        clear hx
        go_wp2_with (first | (go_at_call 113; obtain ⟨q, hq⟩ := Ev.rounds (icross_ev l0 HW.out cj k (by have := HN.out; have := HCN.out; omega) (by have := HN.out; have := HKN.out; omega)); refine (impl_cross.calls q A0 c0 l0 (cj : Int) (k : Int) x _ (Kd.C_drewN (Kd.F_now HE3.out.rd) _) HC0.out (by rw [hq, HX.out])).mono ?_; clear hq; rintro e w3 ⟨rfl, ⟨nd, rfl⟩⟩))
        go_roundw
        case rel => exact ⟨j + 1, x == decide (j + 1 = ch.length), rfl, by (congr 1; congr 1; rw [Bool.eq_iff_iff]; simp; have := HLE.out; omega), ⟨by rw [fitTo, ← HBJ.out, ← HCJ.out, ← HX.out]; simp⟩, ⟨HJL.out⟩, _, rfl⟩
        case measure => have := HJL.out; simp [intOf]; omega
      ·have s1 : decide ((j : Int) < ((ints ch).length : Int)) = false := decide_eq_false (by omega)
       have s2 : decide (j < (ints ch).length) = false := decide_eq_false hj
       have HBF := Aside0.mk (show b = fitB (crossB l0) ch k from by rw [HBJ.out, fitB, show j = ch.length from by have := HJ.out; have := HLE.out; omega])
       clear hj
       cases b with
       | false =>
        go_wp2_with fail
        go_roundw
        case rel => exact ⟨k + 1, rfl, ⟨HKN.out⟩, ⟨grown_drewN HG.out _⟩, ⟨by rw [longTo_succ, ← HBF.out]; exact HE3.out.still (grown_drewN (grown_refl _ _) _)⟩, ⟨by rw [longTo_succ, ← HBF.out]; exact HL3.out⟩⟩
        case measure => have := HKN.out; simp [intOf]; omega
       | true =>
        go_wp2_with fail
        have h3a : ∀ (q : Nat) (o : Obj), ((wo.drewN q).alloc o).cell? ⟨Bm, 0, none⟩ = some (.func (.func 157) #[] #[.pointer (some ⟨Bb, 0, none⟩), .pointer (some ⟨Bw, 0, none⟩), .pointer (some ⟨Bm, 0, none⟩)]) := fun q o => (HE3.out.still (grown_alloc (grown_drewN (grown_refl _ _) q) o)).cm
        go_region_law (first
         | (refine goes_ Try.func156 (by kernel_rfl) rfl #[.slice A (ints ch).length c] (by rfl) rfl rfl (by simp [Act.eval, Act.put]) ?_; refine (slices_Clip_int64_int64.calls A (ints ch).length c _ HC.out).mono ?_; rintro e w2 ⟨rfl, rfl⟩; refine ⟨_, rfl, ?_⟩)
         | (refine step_append_full rfl (.tmp 49) (.tmp 51) 22 2 rfl Try.underlying22 info2 A (ints ch).length 1 wo.heap.size (ints ch) [(k : Int)] ?p1 ?p2 ?p3 ?p4 rfl (by decide) ?p5 ?_; (case p1 => simp [Act.eval, Act.put]); (case p2 => simp [Act.eval, Act.put]); (case p3 => repeat (first | exact Kd.F_now HF3.out | (with_reducible refine Kd.C_alloc ?_ _) | (with_reducible refine Kd.C_drewN ?_ _) | (with_reducible refine Kd.C_drew ?_))); (case p4 => repeat (first | exact heap_alloc_new _ _ | (with_reducible refine blk_drewN ?_ _) | (with_reducible refine blk_drew ?_))); (case p5 => omega); intro v1 w2 ho2 hg2; rw [show ints ch ++ [(k : Int)] = ints (ch ++ [k]) from (ints_app ch [k]).symm] at ho2; obtain ⟨A2, c2, rfl, hl2, _⟩ := Kd.R_reads ho2; have HGN := Aside0.mk (grown_trans (show wo.grownBy _ none from by repeat (first | exact grown_refl _ _ | (with_reducible refine grown_alloc ?_ _) | (with_reducible refine grown_drewN ?_ _) | (with_reducible refine grown_drew ?_))) hg2); have HF4 := Aside0.mk (Kd.F_mono (ok' := fun k => k ≠ Bb) (Kd.R_F ho2) (fun q hq e => by have := HE3.out.lt; subst e; simp at hq; omega)); have HL2 := Aside0.mk hl2; clear ho2 hg2 hl2; have h3b := (HE3.out.still HGN.out).cm)
         | (refine callv_ Try.func157 (by kernel_rfl) rfl #[.pointer (some ⟨Bb, 0, none⟩), .pointer (some ⟨Bw, 0, none⟩), .pointer (some ⟨Bm, 0, none⟩)] #[.slice A2 (ints (ch ++ [k])).length c2] _ (by rfl) rfl rfl ?q1 ?q2 rfl ?_; (case q1 => simp [Act.eval, Act.put]); (case q2 => simp [Act.eval, Act.put]); refine (HIH.out (ch ++ [k]) _ A2 c2 w2 (by rw [List.length_append, List.length_singleton]; have := HI.out; omega) (HE3.out.still HGN.out) HL3.out (nats_app HD.out (fitTo_contains HBF.out.symm)) (nats_mem HU.out HKN.out) HF4.out HL2.out).mono ?_; rintro e w3 ⟨rfl, hg3, hr3⟩; refine ⟨_, rfl, ?_⟩; have HG3 := Aside0.mk (grown_trans (grown_trans HG.out (grown_of_none HGN.out _)) hg3); have HE4 := Aside0.mk hr3; clear hg3 hr3))
        all_goals
         go_wp2
         go_roundw
         case rel => exact ⟨k + 1, rfl, ⟨HKN.out⟩, ⟨HG3.out⟩, ⟨by rw [longTo_succ, ← HBF.out]; exact HE4.out⟩, ⟨by rw [longTo_succ, ← HBF.out]; exact longW_len _ _ _ _ _ HL3.out (nats_app HD.out (fitTo_contains HBF.out.symm)) (nats_mem HU.out HKN.out)⟩⟩
         case measure => have := HKN.out; simp [intOf]; omega
    ·have t1 : decide ((k : Int) < (n : Int)) = false := decide_eq_false (by omega)
     have t2 : decide (k < n) = false := decide_eq_false hlt
     have HKE := Aside0.mk (show k = n by have := HK.out; omega)
     clear hlt
     go_wp2_with fail
     go_end0
     refine HQ.out _ _ ⟨rfl, HG.out, ?_⟩
     have := HE3.out
     rw [HKE.out] at this
     exact this
set_option maxHeartbeats 8000000 in
set_option maxRecDepth 100000 in
theorem impl_longest.calls (A0 : Option Addr) (c0 : Nat) (l0 : List Int) (r : List Int) (w : World) (hr0 : Kd.C (Kd.int .i64) w A0 l0.length l0) (hc0 : l0.length ≤ c0) (h : impl_longest.f l0 = some r) :
  Calls Try.prog 112 #[.slice A0 l0.length c0] w fun e w' => ∃ v0_ : Value, e = .returned v0_ ∧ Kd.R (Kd.int .i64) 2 w' w.heap.size (fun _ => True) v0_ r ∧ Below w.heap.size w w' := by
 have hf : isW l0 = true ∧ r = longV l0 := by
  unfold impl_longest.f at h
  by_cases hk : isW l0 = true
  ·rw [if_pos hk] at h; exact ⟨hk, (Option.some.inj h).symm⟩
  ·rw [if_neg hk] at h; exact absurd h (by simp)
 have hw := (isW_iff l0).1 hf.1
 have HW := Aside0.mk hw
 have HRR := Aside0.mk hf.2
 have HR := Aside0.mk hr0
 have HC := Aside0.mk hc0
 clear hr0 hc0 h hf hw
 have hmf : ∀ (fn : Fn) (first cap : Array Value) (w : World), (Instr.makeFunc fn first cap).run Try.prog w = .ok (.func fn first cap) w := fun _ _ _ _ => rfl
 go_enter Try.func112, Try.ntmps112
 go_wp2_with fail
 refine (longest_1 l0 HW.out A0 c0 (l0.length / 2) (w.heap.size + 1 + 1) (w.heap.size + 1 + 1 + 1) w.heap.size w.heap.size rfl HC.out (l0.length / 2 + 1) [] [] none 0 _ (by simp) ?he (by simp) List.nodup_nil (by simp) (Kd.F_nil _ _ _) (Nat.le_refl _)).mono ?_
 case he =>
  exact ⟨⟨_, cell1 (by repeat (first | exact new_at (by simp) | refine blk_alloc ?_ _ | refine blk_drewN ?_ _)), R_of_block_ok (B := w.heap.size + 1) (m := 0) (xs := []) (show _ = some (Obj.cells #[] _ (0, 0)) from by repeat (first | exact new_at (by simp) | refine blk_alloc ?_ _ | refine blk_drewN ?_ _)) rfl (by unfold maxLen; omega) (by omega) _ (by omega)⟩, blk_frozen (g := w.heap.size + 1 + 1) (t := 22) (cs := #[.slice (some ⟨w.heap.size + 1, 0, none⟩) 0 0]) (by repeat (first | exact new_at (by simp) | refine blk_alloc ?_ _ | refine blk_drewN ?_ _)) 0, cell1 (by repeat (first | exact new_at (by simp) | refine blk_alloc ?_ _ | refine blk_drewN ?_ _)), cell1 (by repeat (first | exact new_at (by simp) | refine blk_alloc ?_ _ | refine blk_drewN ?_ _)), by omega, by omega, by repeat (first | exact Kd.F_mono (F_of_C HR.out) (fun k hk => by omega) | refine Kd.F_alloc ?_ _ | refine Kd.F_drewN ?_ _), by simp, by omega⟩
 rintro e w2 ⟨rfl, hg, E⟩
 obtain ⟨v, h2, hR⟩ := E.cb
 obtain ⟨A2, c2, rfl, _, _⟩ := Kd.R_reads hR
 have HG := Aside0.mk hg
 have HH := Aside0.mk hR
 clear hg hR E
 go_wp2
 go_ret
 refine ⟨_, rfl, ?_, ?_⟩
 ·rw [HRR.out]
  exact Kd.R_mono HH.out (fun _ _ => trivial)
 ·exact below_grown (by repeat (first | exact Below.refl _ _ | apply below_alloc | apply pw_below_drewN)) HG.out (by omega)

end Go.Proofs.Ytfijnlbkflmkbaa.F
