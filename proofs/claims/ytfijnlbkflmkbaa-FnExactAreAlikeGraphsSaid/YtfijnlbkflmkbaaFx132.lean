/- What impl_code answers, and that the Go text comes to it: for every world in which the arguments read as told. -/
import Derived.Test.YtfijnlbkflmkbaaFgA
import Derived.Test.YtfijnlbkflmkbaaFx171
import Derived.Test.YtfijnlbkflmkbaaFgB
import Derived.Test.YtfijnlbkflmkbaaPureE
import Derived.Test.YtfijnlbkflmkbaaPureCmp
import Derived.Test.YtfijnlbkflmkbaaPureMem
import Derived.Deep.RegionWith
import Derived.Deep.RegionLawGrows
import Derived.Laws.EntriesVeiled
import Derived.WalkSpells
namespace Go.Proofs.Ytfijnlbkflmkbaa.F
open Go.RowKit Go.Proofs.YtfijnlbkflmkbaaW.PrintWords Go.Proofs.YtfijnlbkflmkbaaW.PrintLast Go.Proofs.YtfijnlbkflmkbaaW.PrintMore
attribute [local go_sem] max2_int min2_int max_two min_two max_three min_three max_four min_four   -- for this text's walks alone
set_option linter.unusedVariables false
set_option linter.unusedSimpArgs false

/-! ### impl_code: function 132 (by hand) -/
open Go.Proofs.Ytfijnlbkflmkbaa.Pure Go.Proofs.Ytfijnlbkflmkbaa.Mem
/-- The crossings of a chord with those of a list. -/
def entsOf (X : Nat → Nat → Bool) (i : Nat) (order : List Nat) : List Int := order.map fun k => if X i k = true then 1 else 0
def pruned (best : Option (List Int)) (now : List Int) : Bool := match best with
 | none => false
 | some b => decide (0 < cmpL now (b.take now.length))
/-- The least code behind those that begin with an order. -/
def codeW (X : Nat → Nat → Bool) (n : Nat) : Nat → List Nat → List Int → Option (List Int) → Option (List Int)
 | 0, _, now, best => if pruned best now = true then best else some now
 | d + 1, order, now, best => if pruned best now = true then best else (List.range n).foldl (fun b i => if order.contains i = true then b else codeW X n d (order ++ [i]) (now ++ entsOf X i order) b) best
def codeTo (X : Nat → Nat → Bool) (n d : Nat) (order : List Nat) (now : List Int) (best : Option (List Int)) (j : Nat) : Option (List Int) := (List.range j).foldl (fun b i => if order.contains i = true then b else codeW X n d (order ++ [i]) (now ++ entsOf X i order) b) best
theorem codeTo_succ (X : Nat → Nat → Bool) (n d : Nat) (order : List Nat) (now : List Int) (best : Option (List Int)) (j : Nat) : codeTo X n d order now best (j + 1) = if order.contains j = true then codeTo X n d order now best j else codeW X n d (order ++ [j]) (now ++ entsOf X j order) (codeTo X n d order now best j) := by
 unfold codeTo; rw [List.range_succ, List.foldl_append]; rfl
theorem codeW_pruned {X : Nat → Nat → Bool} {n : Nat} {order : List Nat} {now : List Int} {best : Option (List Int)} (h : pruned best now = true) : ∀ d, codeW X n d order now best = best
 | 0 => by rw [codeW, if_pos h]
 | d + 1 => by rw [codeW, if_pos h]
theorem codeW_leaf {X : Nat → Nat → Bool} {n : Nat} {order : List Nat} {now : List Int} {best : Option (List Int)} (h : pruned best now = false) : codeW X n 0 order now best = some now := by rw [codeW, if_neg (by rw [h]; simp)]
theorem codeW_node {X : Nat → Nat → Bool} {n d : Nat} {order : List Nat} {now : List Int} {best : Option (List Int)} (h : pruned best now = false) : codeW X n (d + 1) order now best = codeTo X n d order now best n := by rw [codeW, if_neg (by rw [h]; simp)]; rfl
def codeV (w : List Int) : List Int := (codeW (crossB w) (w.length / 2) (w.length / 2) [] [] none).getD []
def impl_code.f (l0 : List Int) : Option (List Int) := if isW l0 = true then some (codeV l0) else none
/-- How many pairs m have. -/
def tri : Nat → Nat
 | 0 => 0
 | m + 1 => tri m + m
theorem tri_le : ∀ {m n : Nat}, m ≤ n → tri m ≤ tri n
 | m, 0, h => by rw [show m = 0 from by omega]; exact Nat.le_refl _
 | m, n + 1, h => by
  by_cases e : m = n + 1
  ·rw [e]; exact Nat.le_refl _
  ·have := tri_le (m := m) (n := n) (by omega)
   rw [tri]; omega
theorem tri_pos {n : Nat} (h : 2 ≤ n) : 0 < tri n := Nat.lt_of_lt_of_le (show 0 < tri 2 by decide) (tri_le h)
theorem entsOf_len (X : Nat → Nat → Bool) (i : Nat) (order : List Nat) : (entsOf X i order).length = order.length := by simp [entsOf]
theorem entsOf_snoc {w : List Int} {i k : Nat} {order : List Nat} {now : List Int} (h : k < order.length) : (now ++ entsOf (crossB w) i (order.take k)) ++ [ent w i (order.getD k 0)] = now ++ entsOf (crossB w) i (order.take (k + 1)) := by
 rw [List.append_assoc]
 congr 1
 rw [List.take_succ_eq_append_getElem h, List.getD_eq_getElem?_getD, List.getElem?_eq_getElem h]
 unfold entsOf
 rw [List.map_append]
 rfl
theorem codeTo_first {X : Nat → Nat → Bool} {n d : Nat} {order : List Nat} {now : List Int} {best : Option (List Int)} (h : 2 ≤ n ∨ best = none) {i : Nat} (hi : i < n) : 2 ≤ n ∨ codeTo X n d order now best i = none := by
 rcases h with h | h
 ·exact .inl h
 ·by_cases h2 : 2 ≤ n
  ·exact .inl h2
  ·refine .inr ?_
   rw [show i = 0 from by omega]
   exact h
def BestOk (n : Nat) (best : Option (List Int)) : Prop := best = none ∨ ∃ b, best = some b ∧ b.length = tri n
theorem codeW_ok (X : Nat → Nat → Bool) (n : Nat) : ∀ (d : Nat) (order : List Nat) (now : List Int) (best : Option (List Int)), order.length + d = n → now.length = tri order.length → BestOk n best → BestOk n (codeW X n d order now best)
 | 0, order, now, best, ho, hn, hb => by
  rw [codeW]
  split
  ·exact hb
  ·exact .inr ⟨now, rfl, by rw [hn, show order.length = n from by omega]⟩
 | d + 1, order, now, best, ho, hn, hb => by
  rw [codeW]
  split
  ·exact hb
  ·suffices g : ∀ (l : List Nat) (b : Option (List Int)), BestOk n b → BestOk n (l.foldl (fun b i => if order.contains i = true then b else codeW X n d (order ++ [i]) (now ++ entsOf X i order) b) b) from g _ _ hb
   intro l
   induction l with
   | nil => exact fun b hb => hb
   | cons a l ih =>
    intro b hb
    rw [List.foldl_cons]
    refine ih _ ?_
    split
    ·exact hb
    ·exact codeW_ok X n d _ _ _ (by rw [List.length_append, List.length_singleton]; omega) (by rw [List.length_append, hn, entsOf_len, List.length_append, List.length_singleton, tri]) hb
theorem codeTo_ok (X : Nat → Nat → Bool) (n d : Nat) (order : List Nat) (now : List Int) (best : Option (List Int)) (ho : order.length + (d + 1) = n) (hn : now.length = tri order.length) (hb : BestOk n best) : ∀ j, BestOk n (codeTo X n d order now best j)
 | 0 => hb
 | j + 1 => by
  rw [codeTo_succ]
  split
  ·exact codeTo_ok X n d order now best ho hn hb j
  ·exact codeW_ok X n d _ _ _ (by rw [List.length_append, List.length_singleton]; omega) (by rw [List.length_append, hn, entsOf_len, List.length_append, List.length_singleton, tri]) (codeTo_ok X n d order now best ho hn hb j)
/-- What the closure finds in memory. -/
structure CEnv (w : World) (l0 : List Int) (n Bb Bl Bm base : Nat) (Al : Option Addr) (cl : Nat) (best : Option (List Int)) : Prop where
 cb : (best = none ∧ w.cell? ⟨Bb, 0, none⟩ = some (.slice none 0 0)) ∨ ∃ v b, best = some b ∧ w.cell? ⟨Bb, 0, none⟩ = some v ∧ Kd.R (Kd.int .i64) 2 w base (fun k => k ≠ Bb) v b
 fb : w.frozen? ⟨Bb, 0, none⟩ = false
 cl_ : w.cell? ⟨Bl, 0, none⟩ = some (.slice Al n cl)
 le : n ≤ cl
 rw_ : Kd.F (Kd.slice 2 (Kd.int .i64)) w (fun k => k ≠ Bb) Al n (rowsOf l0)
 cm : w.cell? ⟨Bm, 0, none⟩ = some (.func (.func 172) #[] #[.pointer (some ⟨Bb, 0, none⟩), .pointer (some ⟨Bl, 0, none⟩), .pointer (some ⟨Bm, 0, none⟩)])
 n3 : Bm ≠ Bb
 n4 : Bl ≠ Bb
 lt : Bb < w.heap.size
 bs : base ≤ Bb
section
variable {w w' w1 : World} {l0 : List Int} {n Bb Bl Bm base cl : Nat} {Al : Option Addr} {best bst : Option (List Int)}
theorem CEnv.still (h : CEnv w l0 n Bb Bl Bm base Al cl best) (hg : w.grownBy w' none) : CEnv w' l0 n Bb Bl Bm base Al cl best := by
 refine ⟨?_, (hg.frozen_far _ h.lt (by simp)).trans h.fb, hg.cell h.cl_ (by simp), h.le, Kd.F_grown h.rw_ hg (fun _ _ => by simp), hg.cell h.cm (by simp), h.n3, h.n4, Nat.lt_of_lt_of_le h.lt hg.size, h.bs⟩
 rcases h.cb with ⟨h1, h2⟩ | ⟨v, b, h1, h2, h3⟩
 ·exact .inl ⟨h1, hg.cell h2 (by simp)⟩
 ·exact .inr ⟨v, b, h1, hg.cell h2 (by simp), Kd.R_grown h3 hg (fun _ _ => by simp)⟩
theorem CEnv.put {v : Value} {b : List Int} (h : CEnv w l0 n Bb Bl Bm base Al cl best) (hb : Below w.heap.size w w1) (ho : Kd.R (Kd.int .i64) 2 w1 w.heap.size (fun _ => True) v b) :
  CEnv (w1.setCell ⟨Bb, 0, none⟩ v) l0 n Bb Bl Bm base Al cl (some b) ∧ w.grownBy (w1.setCell ⟨Bb, 0, none⟩ v) (some Bb) := by
 have h1 := h.still (w' := w1) ⟨hb.os, hb.tape, hb.output, hb.size, fun k hk _ => hb.block k hk⟩
 have hu : ∃ u, w1.cell? ⟨Bb, 0, none⟩ = some u := by
  rcases h1.cb with ⟨_, h2⟩ | ⟨v, b, _, h2, _⟩
  ·exact ⟨_, h2⟩
  ·exact ⟨_, h2⟩
 obtain ⟨u, hu⟩ := hu
 have hg : w1.grownBy (w1.setCell ⟨Bb, 0, none⟩ v) (some Bb) := grown_set (grown_refl w1 _) 0 v
 have hlt := h.lt
 have hbs := h.bs
 exact ⟨⟨.inr ⟨v, b, rfl, World.cell?_setCell_same _ _ _ hu, Kd.R_far (Kd.R_mono (Kd.R_lower (Kd.R_bound ho) (by omega)) (ok' := fun k => k ≠ Bb) (fun k hk => by have := hk.2.1; omega)) (fun k hk => hk) v⟩, by rw [World.frozen?_setCell]; exact h1.fb, hg.cell h1.cl_ (fun e => h.n4 (Option.some.inj e)), h.le, Kd.F_far h1.rw_ (fun k hk => hk) v, hg.cell h1.cm (fun e => h.n3 (Option.some.inj e)), h.n3, h.n4, by simpa [World.setCell] using h1.lt, h.bs⟩, grown_trans (gb_of_below hb _) hg⟩
end
theorem info_int : (Try.prog.info? 3).map (fun i => (i.zero, i.size, i.bytes)) = some (some (.int .i64 0), 1, 8) := by kernel_rfl
/-- What the closure leaves. -/
def CPost (w : World) (l0 : List Int) (n Bb Bl Bm base : Nat) (Al : Option Addr) (cl : Nat) (best : Option (List Int)) (e : Ending) (w' : World) : Prop :=
 e = .returned (.tuple #[]) ∧ w.grownBy w' (some Bb) ∧ CEnv w' l0 n Bb Bl Bm base Al cl best
set_option maxHeartbeats 8000000 in
set_option maxRecDepth 100000 in
theorem code_1 (l0 : List Int) (n Bb Bl Bm base : Nat) (Al : Option Addr) (cl : Nat) (hn : n = l0.length / 2) (hn6 : n ≤ 6) : ∀ (d : Nat) (order : List Nat) (now : List Int) (best : Option (List Int)) (A A2 : Option Addr) (c c2 : Nat) (w : World), order.length + d = n →
  CEnv w l0 n Bb Bl Bm base Al cl best → BestOk n best → (2 ≤ n ∨ best = none) → now.length = tri order.length → order.Nodup → (∀ x ∈ order, x < n) → Kd.F (Kd.int .i64) w (fun k => k ≠ Bb) A (ints order).length (ints order) → (ints order).length ≤ c → Kd.F (Kd.int .i64) w (fun k => k ≠ Bb) A2 now.length now → now.length ≤ c2 →
  Calls Try.prog 172 #[.slice A (ints order).length c, .slice A2 now.length c2, .pointer (some ⟨Bb, 0, none⟩), .pointer (some ⟨Bl, 0, none⟩), .pointer (some ⟨Bm, 0, none⟩)] w (CPost w l0 n Bb Bl Bm base Al cl (codeW (crossB l0) n d order now best)) := by
 intro d
 induction d using Nat.strongRecOn with
 | _ d ih =>
  intro order now best A A2 c c2 w hi E hbo h2n hnow hd hu hF hc hF2 hc2
  have hne := fun (W : World) (a : Option Addr) (n c : Nat) => Go.run_neq_slice_nil_any (P := Try.prog) W 22 2 a n c 0 0 Try.underlying22
  have hlen : order.length ≤ n := by omega
  have htri : now.length ≤ 15 := by rw [hnow]; exact tri_le (n := 6) (by omega)
  have hol : (ints order).length = order.length := ints_len order
  have HNN := Aside0.mk hn
  have HI := Aside0.mk hi
  have HE := Aside0.mk E
  have HBO := Aside0.mk hbo
  have H2N := Aside0.mk h2n
  have HNOW := Aside0.mk hnow
  have HD := Aside0.mk hd
  have HU := Aside0.mk hu
  have HF := Aside0.mk hF
  have HC := Aside0.mk hc
  have HF2 := Aside0.mk hF2
  have HC2 := Aside0.mk hc2
  have HIH := Aside0.mk ih
  have HOL := Aside0.mk hol
  have hol6 : (ints order).length ≤ 6 := by omega
  clear hn hi E hbo h2n hnow hd hu hF hc hF2 hc2 ih hol
  suffices hsuf : ∀ Q : Ending → World → Prop, (∀ e w', CPost w l0 n Bb Bl Bm base Al cl (codeW (crossB l0) n d order now best) e w' → Q e w') → Calls Try.prog 172 #[.slice A (ints order).length c, .slice A2 now.length c2, .pointer (some ⟨Bb, 0, none⟩), .pointer (some ⟨Bl, 0, none⟩), .pointer (some ⟨Bm, 0, none⟩)] w Q from hsuf _ (fun _ _ h => h)
  intro Q hQ
  have HQ := Aside0.mk hQ
  clear hQ
  have h3 := HE.out.cl_
  by_cases hbn : best = none
  have HPR := Aside0.mk (show pruned best now = false from by rw [hbn]; rfl)
  have hcb : w.cell? ⟨Bb, 0, none⟩ = some (.slice none 0 0) := by
   rcases HE.out.cb with ⟨_, h⟩ | ⟨v, b, h, _⟩
   ·exact h
   ·rw [hbn] at h; cases h
  clear hbn
  go_enter Try.func172, Try.ntmps172
  go_upto_region 1 with fail
  clear hcb h3
  obtain ⟨w2, hw2⟩ : ∃ w2, w2 = w := ⟨w, rfl⟩
  have HE2 := Aside0.mk (show CEnv w2 l0 n Bb Bl Bm base Al cl best from by rw [hw2]; exact HE.out)
  have HG2 := Aside0.mk (show w.grownBy w2 none from by rw [hw2]; exact grown_refl _ _)
  rw [← hw2]
  clear hw2
  rotate_left
  focus
   obtain ⟨v, b, hbest, hcb, hRb⟩ : ∃ v b', best = some b' ∧ w.cell? ⟨Bb, 0, none⟩ = some v ∧ Kd.R (Kd.int .i64) 2 w base (fun k => k ≠ Bb) v b' := by
    rcases HE.out.cb with ⟨h, _⟩ | h
    ·exact absurd h hbn
    ·exact h
   have hbl : b.length = tri n := by
    rcases HBO.out with h | ⟨b', h, h2⟩
    ·exact absurd h hbn
    ·rw [hbest] at h; cases h; exact h2
   have h2 : 2 ≤ n := by
    rcases H2N.out with h | h
    ·exact h
    ·exact absurd h hbn
   have hbp := tri_pos h2
   have hbt : now.length ≤ b.length := by rw [hbl, HNOW.out]; exact tri_le hlen
   have hb15 : b.length ≤ 15 := by rw [hbl]; exact tri_le (n := 6) hn6
   obtain ⟨Ab, cb, rfl, hcl, hCb⟩ := Kd.R_reads hRb
   obtain ⟨ad, rfl, _⟩ := hCb.2.2 (by omega)
   obtain ⟨i0, hi0, _, hsz, _⟩ := info_parts info2
   obtain ⟨hcut, hA, hC4⟩ := print_take_of (P := Try.prog) (Value.int .i64) 0 22 2 .i64 Try.underlying22 hi0 hsz (some ad) cb b (now.length : Int) (by omega) (by omega) hcl
   have HCUT := Aside0.mk (Kd.C_of_reads (h1 := fun _ => rfl) (hA _ (Kd.reads_of_C hCb)))
   have HC4 := Aside0.mk hC4
   rw [Int.toNat_natCast] at HCUT HC4 hcut
   obtain ⟨cc, hcc⟩ : ∃ cc, cc = cmpL now (b.take now.length) := ⟨_, rfl⟩
   have HCC := Aside0.mk hcc
   have HTL := Aside0.mk (show (b.take now.length).length = now.length from by rw [List.length_take]; omega)
   have HPP := Aside0.mk (show pruned best now = decide (0 < cc) from by rw [hbest, hcc]; rfl)
   clear hbest hbl hbp hCb hcl hRb hA hC4 hcc hi0 hsz hbn
   by_cases hp : 0 < cc
   ·have HP := Aside0.mk hp
    go_enter Try.func172, Try.ntmps172
    go_wp2_with (first | (go_at_call 173; obtain ⟨q, hq⟩ := Ev.rounds (compare_ev now (b.take now.length) (by omega) (by rw [List.length_take]; omega)); refine (calls_len2 HTL.out (slices_Compare_int64_int64.calls q A2 c2 now (some ad) cb (b.take now.length) cc _ (Kd.F_now HF2.out) HC2.out HCUT.out HC4.out (by rw [hq, HCC.out]))).mono ?_; clear hq; rintro e w2 ⟨rfl, ⟨nd, rfl⟩⟩))
    (try simp only [Exit.inBlock, Exit.then])
    refine bodyPost_ret (results_none rfl _ _ _) rfl ?_
    refine HQ.out _ _ ⟨rfl, grown_drewN (grown_refl _ _) _, ?_⟩
    rw [codeW_pruned (by rw [HPP.out]; exact decide_eq_true HP.out)]
    exact HE.out.still (grown_drewN (grown_refl _ _) _)
   have HPR := Aside0.mk (show pruned best now = false from by rw [HPP.out]; exact decide_eq_false (by omega))
   go_enter Try.func172, Try.ntmps172
   go_upto_region 1 with (first | (go_at_call 173; obtain ⟨q, hq⟩ := Ev.rounds (compare_ev now (b.take now.length) (by omega) (by rw [List.length_take]; omega)); refine (calls_len2 HTL.out (slices_Compare_int64_int64.calls q A2 c2 now (some ad) cb (b.take now.length) cc _ (Kd.F_now HF2.out) HC2.out HCUT.out HC4.out (by rw [hq, HCC.out]))).mono ?_; clear hq; rintro e w2 ⟨rfl, ⟨nd, rfl⟩⟩))
   clear hcb h3 hcut hp
   have HE2 := Aside0.mk (HE.out.still (grown_drewN (grown_refl _ _) nd))
   have HG2 := Aside0.mk (grown_drewN (grown_refl w Option.none) nd)
   generalize w.drewN nd = w2 at HE2 HG2 ⊢
  all_goals
   have h4 := HE2.out.cl_
   by_cases hd0 : d = 0
   ·have HD0 := Aside0.mk hd0
    have t1 : (((ints order).length : Int) == (n : Int)) = true := by rw [HOL.out]; simp; have := HI.out; omega
    have hu : ∃ u, w2.cell? ⟨Bb, 0, none⟩ = some u := by
     rcases HE2.out.cb with ⟨_, h⟩ | ⟨v, b, _, h, _⟩
     ·exact ⟨_, h⟩
     ·exact ⟨_, h⟩
    obtain ⟨u, hu⟩ := hu
    have hfz := HE2.out.fb
    clear hd0
    go_wp2_with (first | (go_at_call 152; refine (slices_Clone_int64_int64.calls A2 c2 now now _ (Kd.F_now (Kd.F_grown HF2.out HG2.out (fun _ _ => by simp))) HC2.out (by unfold slices_Clone_int64_int64.f; rw [if_pos (by omega)])).mono ?_; rintro e w3 ⟨v0, rfl, ho1, hb1⟩; obtain ⟨A1, c1, rfl, hl1, _⟩ := Kd.R_reads ho1; have HO1 := Aside0.mk ho1; have HB1 := Aside0.mk hb1; have hx1 := (hb1.cell (p := ⟨Bb, 0, none⟩) HE2.out.lt).trans hu; have hfz1 := (hb1.frozen (p := ⟨Bb, 0, none⟩) HE2.out.lt).trans hfz; clear ho1 hb1))
    (try simp only [Exit.inBlock, Exit.then])
    refine bodyPost_ret (results_none rfl _ _ _) rfl ?_
    have hp := HE2.out.put HB1.out HO1.out
    refine HQ.out _ _ ⟨rfl, grown_trans (grown_of_none HG2.out _) hp.2, ?_⟩
    rw [HD0.out, codeW_leaf HPR.out]
    exact hp.1
   ·obtain ⟨d', hd'⟩ : ∃ d', d = d' + 1 := ⟨d - 1, by omega⟩
    subst hd'
    have t1 : (((ints order).length : Int) == (n : Int)) = false := by rw [HOL.out]; simp; have := HI.out; omega
    clear hd0
    go_wp2_with fail
    go_loopw [31] (fun s wr => ∃ i : Nat, s = .int .i64 (i : Int) ∧ Aside0 (i ≤ n) ∧ Aside0 (w.grownBy wr (some Bb)) ∧ Aside0 (CEnv wr l0 n Bb Bl Bm base Al cl (codeTo (crossB l0) n d' order now best i)))
     (fun s _ => n - (intOf s).toNat)
    case atStart => exact ⟨0, rfl, ⟨Nat.zero_le _⟩, ⟨grown_of_none HG2.out _⟩, HE2⟩
    case round =>
     clear h4
     obtain ⟨i, rfl, HIN, HG, HE3⟩ := hrel
     have HF3 := Aside0.mk (Kd.F_grown HF.out HG.out (fun k hk e => hk (Option.some.inj e)))
     have HF4 := Aside0.mk (Kd.F_grown HF2.out HG.out (fun k hk e => hk (Option.some.inj e)))
     have h4 := HE3.out.cl_
     by_cases hlt : i < n
     ·have t2 : decide ((i : Int) < (n : Int)) = true := decide_eq_true (by omega)
      have t3 : decide (i < n) = true := decide_eq_true hlt
      have HKN := Aside0.mk hlt
      have hi6 : i < 6 := by omega
      clear hlt
      cases hct : order.contains i with
      | true =>
       have HCT := Aside0.mk hct
       clear hct
       go_wp2_with (first | (go_at_call 174; obtain ⟨q, hq⟩ := Ev.rounds (containsI_ev (ints order) (i : Int) (by omega)); refine (slices_Contains_int_int.calls q A c (ints order) (i : Int) true _ (Kd.F_now HF3.out) HC.out (by rw [hq, ints_contains, HCT.out])).mono ?_; clear hq; rintro e w3 ⟨rfl, ⟨nd, rfl⟩⟩))
       go_roundw
       case rel => exact ⟨i + 1, rfl, ⟨HKN.out⟩, ⟨grown_drewN HG.out _⟩, ⟨by rw [codeTo_succ, if_pos HCT.out]; exact HE3.out.still (grown_drewN (grown_refl _ _) _)⟩⟩
       case measure => have := HKN.out; simp [intOf]; omega
      | false =>
       have HCT := Aside0.mk hct
       clear hct
       go_wp2_with (first | (go_at_call 174; obtain ⟨q, hq⟩ := Ev.rounds (containsI_ev (ints order) (i : Int) (by omega)); refine (slices_Contains_int_int.calls q A c (ints order) (i : Int) false _ (Kd.F_now HF3.out) HC.out (by rw [hq, ints_contains, HCT.out])).mono ?_; clear hq; rintro e w3 ⟨rfl, ⟨nd, rfl⟩⟩) | (go_at_call 152; refine (slices_Clone_int64_int64.calls A2 c2 now now _ (Kd.C_drewN (Kd.F_now HF4.out) _) HC2.out (by unfold slices_Clone_int64_int64.f; rw [if_pos (by omega)])).mono ?_; rintro e w4 ⟨v0, rfl, ho1, hb1⟩; have HO1 := Aside0.mk ho1; have HB1 := Aside0.mk hb1; clear ho1 hb1))
       have HBW := Aside0.mk (below_step (pw_below_drewN (Below.refl wr.heap.size wr) nd) HB1.out)
       have HO2 := Aside0.mk (show Kd.R (Kd.int .i64) 2 w4 wr.heap.size (fun _ => True) v0 now from HO1.out)
       obtain ⟨wo, hwo⟩ : ∃ wo, wo = wr := ⟨wr, rfl⟩
       subst hwo
       clear h4
       go_loopw [8, 41] (fun x s wq => ∃ (k : Nat), s = .int .i64 (k : Int) ∧ Aside0 (k ≤ order.length) ∧ Aside0 (Below wo.heap.size wo wq) ∧ Aside0 (Kd.R (Kd.int .i64) 2 wq wo.heap.size (fun _ => True) x (now ++ entsOf (crossB l0) i (order.take k))))
        (fun _ s _ => order.length - (intOf s).toNat)
       case atStart => exact ⟨0, rfl, ⟨Nat.zero_le _⟩, HBW, ⟨by rw [List.take_zero]; simpa [entsOf] using HO2.out⟩⟩
       case round =>
        obtain ⟨k, rfl, HK, HBQ, HOQ⟩ := hrel
        have HE4 := Aside0.mk (HE3.out.still (gb_of_below HBQ.out _))
        have HF5 := Aside0.mk (Kd.F_below HF3.out HBQ.out)
        have h4 := HE4.out.cl_
        by_cases hk : k < order.length
        ·have s1 : decide ((k : Int) < ((ints order).length : Int)) = true := decide_eq_true (by rw [HOL.out]; omega)
         have s2 : decide (k < (ints order).length) = true := decide_eq_true (by rw [HOL.out]; exact hk)
         have HKL := Aside0.mk hk
         obtain ⟨ad2, ea2, hcell⟩ := cell_of_C (Kd.F_now HF5.out) k (by rw [HOL.out]; exact hk)
         subst ea2
         rw [ints_getD order k hk] at hcell
         obtain ⟨ok, hok⟩ : ∃ ok, ok = order.getD k 0 := ⟨_, rfl⟩
         rw [← hok] at hcell
         have HOK := Aside0.mk hok
         have HON := Aside0.mk (show ok < n from by rw [hok]; exact HU.out _ (by rw [List.getD_eq_getElem?_getD, List.getElem?_eq_getElem hk]; exact List.getElem_mem _))
         have hkl := show k < (ints order).length from by rw [HOL.out]; exact hk
         clear hok hk
         obtain ⟨adl, Ai, ci, eal, hrow, hci, hCi⟩ := at_L1 (Kd.F_now HE4.out.rw_) (i : Int) (by omega) (by have := HKN.out; omega)
         subst eal
         rw [Int.toNat_natCast] at hrow
         have hrw : rd_L1 (rowsOf l0) (i : Int) = rowTo l0 i (l0.length / 2) := by
          unfold rd_L1; rw [Int.toNat_natCast]; exact rowsOf_get (by have := HKN.out; have := HNN.out; omega)
         have hrl : ok < (rd_L1 (rowsOf l0) (i : Int)).length := by rw [hrw, rowTo_len]; have := HON.out; have := HNN.out; omega
         obtain ⟨adi, eai, hent⟩ := cell_of_C hCi ok hrl
         subst eai
         obtain ⟨x0, hx0⟩ : ∃ x0, x0 = ent l0 i ok := ⟨_, rfl⟩
         rw [hrw, rowTo_get (by have := HON.out; have := HNN.out; omega), ← hx0] at hent
         have HX0 := Aside0.mk hx0
         have HRW := Aside0.mk hrw
         have hq0 : (entsOf (crossB l0) i (order.take k)).length ≤ 6 := by rw [entsOf_len, List.length_take]; omega
         clear hx0 hrw hCi
         have hin := HKN.out
         go_wp2_with (first | (at_builtin; refine Kd.R_append (Kd.int .i64) (w0 := wo) wo.heap.size rfl (.tmp 45) (.tmp 53) 22 2 (.int .i64 0) 8 rfl Try.underlying22 info2 rfl (by decide) (by omega) u8 (now ++ entsOf (crossB l0) i (order.take k)) x0 [.int .i64 x0] (fun _ => True) (fun _ => False) rfl rfl ?aP (fun _ hk => hk.elim) ?aF ?aO ?aB ?aS ?aL ?_; (case aP => exact rfl); (case aB => exact HBQ.out); (case aF => exact (fun _ _ => trivial)); (case aO => exact HOQ.out); (case aS => exact HBQ.out.size); (case aL => rw [List.length_append]; omega); intro v5 w5 ho hb hg hat; have HO5 := Aside0.mk ho; have HB5 := Aside0.mk hb; clear ho hb hg hat))
         go_roundw
         case rel => exact ⟨k + 1, rfl, ⟨HKL.out⟩, HB5, ⟨by rw [← entsOf_snoc HKL.out, ← HOK.out, ← HX0.out]; exact HO5.out⟩⟩
         case measure => have := HKL.out; simp [intOf]; omega
        ·have s1 : decide ((k : Int) < ((ints order).length : Int)) = false := decide_eq_false (by rw [HOL.out]; omega)
         have s2 : decide (k < (ints order).length) = false := decide_eq_false (by rw [HOL.out]; exact hk)
         have HKE := Aside0.mk (show k = order.length by have := HK.out; omega)
         clear hk
         rw [HKE.out, List.take_of_length_le (Nat.le_refl _)] at HOQ
         obtain ⟨A8, c8, e8, hl8, _⟩ := Kd.R_reads HOQ.out
         subst e8
         have HL8 := Aside0.mk hl8
         have h5 := HE4.out.cm
         have h5a : ∀ (q : Nat) (o : Obj), ((wr.drewN q).alloc o).cell? ⟨Bm, 0, none⟩ = some (.func (.func 172) #[] #[.pointer (some ⟨Bb, 0, none⟩), .pointer (some ⟨Bl, 0, none⟩), .pointer (some ⟨Bm, 0, none⟩)]) := fun q o => (HE4.out.still (grown_alloc (grown_drewN (grown_refl _ _) q) o)).cm
         have h5c : ∀ (o : Obj), ((wr.drew).alloc o).cell? ⟨Bm, 0, none⟩ = some (.func (.func 172) #[] #[.pointer (some ⟨Bb, 0, none⟩), .pointer (some ⟨Bl, 0, none⟩), .pointer (some ⟨Bm, 0, none⟩)]) := fun o => (HE4.out.still (grown_alloc (grown_drew (grown_refl _ _)) o)).cm
         have h5d : ∀ (o : Obj), ((wr.alloc o).drew).cell? ⟨Bm, 0, none⟩ = some (.func (.func 172) #[] #[.pointer (some ⟨Bb, 0, none⟩), .pointer (some ⟨Bl, 0, none⟩), .pointer (some ⟨Bm, 0, none⟩)]) := fun o => (HE4.out.still (grown_drew (grown_alloc (grown_refl _ _) o))).cm
         clear hl8
         go_wp2_with fail
         go_region_law (first
          | (refine goes_ Try.func175 (by kernel_rfl) rfl #[.slice A (ints order).length c] (by rfl) rfl rfl (by simp [Act.eval, Act.put]) ?_; refine (slices_Clip_int_int.calls A (ints order).length c _ HC.out).mono ?_; rintro e w2 ⟨rfl, rfl⟩; refine ⟨_, rfl, ?_⟩)
          | (refine step_append_full rfl (.tmp 58) (.tmp 60) 81 3 rfl Try.underlying81 info_int A (ints order).length 1 wr.heap.size (ints order) [(i : Int)] ?p1 ?p2 ?p3 ?p4 rfl (by decide) ?p5 ?_; (case p1 => simp [Act.eval, Act.put]); (case p2 => simp [Act.eval, Act.put]); (case p3 => repeat (first | exact Kd.F_now HF5.out | (with_reducible refine Kd.C_alloc ?_ _) | (with_reducible refine Kd.C_drewN ?_ _) | (with_reducible refine Kd.C_drew ?_))); (case p4 => repeat (first | exact heap_alloc_new _ _ | (with_reducible refine blk_drewN ?_ _) | (with_reducible refine blk_drew ?_))); (case p5 => omega); intro v1 w6 ho2 hg2; rw [show ints order ++ [(i : Int)] = ints (order ++ [i]) from (ints_app order [i]).symm] at ho2; obtain ⟨A6, c6, rfl, hl2, _⟩ := Kd.R_reads ho2; have HGN := Aside0.mk (grown_trans (show wr.grownBy _ none from by repeat (first | exact grown_refl _ _ | (with_reducible refine grown_alloc ?_ _) | (with_reducible refine grown_drewN ?_ _) | (with_reducible refine grown_drew ?_))) hg2); have HF6 := Aside0.mk (Kd.F_mono (ok' := fun k => k ≠ Bb) (Kd.R_F ho2) (fun q hq e => by have := HE4.out.lt; subst e; simp at hq; omega)); have HL2 := Aside0.mk hl2; clear ho2 hg2 hl2; have h3b := (HE4.out.still HGN.out).cm)
          | (refine callv_ Try.func172 (by kernel_rfl) rfl #[.pointer (some ⟨Bb, 0, none⟩), .pointer (some ⟨Bl, 0, none⟩), .pointer (some ⟨Bm, 0, none⟩)] #[.slice A6 (ints (order ++ [i])).length c6, .slice A8 (now ++ entsOf (crossB l0) i order).length c8] _ (by rfl) rfl rfl ?q1 ?q2 rfl ?_; (case q1 => simp [Act.eval, Act.put]); (case q2 => simp [Act.eval, Act.put]); refine (HIH.out d' (by omega) (order ++ [i]) (now ++ entsOf (crossB l0) i order) (codeTo (crossB l0) n d' order now best i) A6 A8 c6 c8 w6 (by rw [List.length_append, List.length_singleton]; have := HI.out; omega) (HE4.out.still HGN.out) (codeTo_ok _ _ _ _ _ _ HI.out HNOW.out HBO.out i) (codeTo_first H2N.out HKN.out) (by rw [List.length_append, HNOW.out, entsOf_len, List.length_append, List.length_singleton, tri]) (nats_app HD.out HCT.out) (nats_mem HU.out HKN.out) HF6.out HL2.out (Kd.F_mono (ok' := fun k => k ≠ Bb) (Kd.F_bound (Kd.F_grown (Kd.R_F (Kd.R_bound HOQ.out)) HGN.out (fun _ _ => by simp))) (fun q hq e => by have := HE3.out.lt; subst e; have := hq.1.2.1; omega)) HL8.out).mono ?_; rintro e w7 ⟨rfl, hg3, hr3⟩; refine ⟨_, rfl, ?_⟩; have HG3 := Aside0.mk (grown_trans (grown_trans (grown_trans HG.out (gb_of_below HBQ.out _)) (grown_of_none HGN.out _)) hg3); have HE6 := Aside0.mk hr3; clear hg3 hr3))
         all_goals
          go_wp2
          go_roundw
          case rel => exact ⟨i + 1, rfl, ⟨HKN.out⟩, ⟨HG3.out⟩, ⟨by rw [codeTo_succ, if_neg (by rw [HCT.out]; simp)]; exact HE6.out⟩⟩
          case measure => have := HKN.out; simp [intOf]; omega
     ·have t2 : decide ((i : Int) < (n : Int)) = false := decide_eq_false (by omega)
      have t3 : decide (i < n) = false := decide_eq_false hlt
      have HKE := Aside0.mk (show i = n by have := HIN.out; omega)
      clear hlt
      go_wp2_with fail
      go_end0
      refine HQ.out _ _ ⟨rfl, HG.out, ?_⟩
      rw [codeW_node HPR.out, ← HKE.out]
      rw [← HKE.out] at HE3
      exact HE3.out
set_option maxHeartbeats 8000000 in
set_option maxRecDepth 100000 in
theorem impl_code.calls (A0 : Option Addr) (c0 : Nat) (l0 : List Int) (r : List Int) (w : World) (hr0 : Kd.C (Kd.int .i64) w A0 l0.length l0) (hc0 : l0.length ≤ c0) (h : impl_code.f l0 = some r) :
  Calls Try.prog 132 #[.slice A0 l0.length c0] w fun e w' => ∃ v0_ : Value, e = .returned v0_ ∧ Kd.R (Kd.int .i64) 2 w' w.heap.size (fun _ => True) v0_ r ∧ Below w.heap.size w w' := by
 have hf : isW l0 = true ∧ r = codeV l0 := by
  unfold impl_code.f at h
  by_cases hk : isW l0 = true
  ·rw [if_pos hk] at h; exact ⟨hk, (Option.some.inj h).symm⟩
  ·rw [if_neg hk] at h; exact absurd h (by simp)
 have hw := (isW_iff l0).1 hf.1
 have hw12 := hw.le
 obtain ⟨q, hq⟩ := Ev.rounds (irows_ev l0 hw)
 have HQ := Aside0.mk hq
 have HRR := Aside0.mk hf.2
 have HR := Aside0.mk hr0
 have HC := Aside0.mk hc0
 have HLR := Aside0.mk (show (rowsOf l0).length = l0.length / 2 from rowsTo_len l0 _)
 clear hr0 hc0 h hf hw hq
 have hmf : ∀ (fn : Fn) (first cap : Array Value) (w : World), (Instr.makeFunc fn first cap).run Try.prog w = .ok (.func fn first cap) w := fun _ _ _ _ => rfl
 go_enter Try.func132, Try.ntmps132
 go_wp2_with (first | (go_at_call 171; refine (impl_rows.calls q A0 c0 l0 (rowsOf l0) _ HR.out HC.out HQ.out).mono ?_; rintro e w1 ⟨v0, rfl, ho1, hb1⟩; obtain ⟨Al, cl, rfl, hll, _⟩ := Kd.R_reads (Kd.S_R ho1); have HO1 := Aside0.mk ho1; have HB1 := Aside0.mk hb1; have HLL := Aside0.mk hll; clear ho1 hb1 hll))
 refine (code_1 l0 (rowsOf l0).length (w1.heap.size + 1) w1.heap.size (w1.heap.size + 1 + 1) w.heap.size Al cl HLR.out (by rw [HLR.out]; omega) (rowsOf l0).length [] [] none none (some ⟨w1.heap.size + 1 + 1 + 1, 0, none⟩) 0 0 _ (by simp) ?he (.inl rfl) (.inr rfl) rfl List.nodup_nil (by simp) (Kd.F_nil _ _ _) (Nat.le_refl _) ?hf (Nat.le_refl _)).mono ?_
 case he =>
  exact ⟨.inl ⟨rfl, cell1 (by repeat (first | exact new_at (by simp) | refine blk_alloc ?_ _ | refine blk_drewN ?_ _))⟩, blk_frozen (g := w1.heap.size + 1) (t := 22) (cs := #[.slice none 0 0]) (by repeat (first | exact new_at (by simp) | refine blk_alloc ?_ _ | refine blk_drewN ?_ _)) 0, cell1 (by repeat (first | exact new_at (by simp) | refine blk_alloc ?_ _ | refine blk_drewN ?_ _)), HLL.out, by repeat (first | exact Kd.F_mono (Kd.F_bound (Kd.R_F (Kd.S_R HO1.out))) (fun k hk => by omega) | refine Kd.F_alloc ?_ _ | refine Kd.F_drewN ?_ _), cell1 (by repeat (first | exact new_at (by simp) | refine blk_alloc ?_ _ | refine blk_drewN ?_ _)), by omega, by omega, by simp, by have := HB1.out.size; omega⟩
 case hf =>
  exact fun W _ => ⟨rfl, by simp, fun h => absurd h (Nat.lt_irrefl _)⟩
 rintro e w2 ⟨rfl, hg, E⟩
 have HG := Aside0.mk hg
 have HBB := Aside0.mk (below_grown (w0 := w) (by repeat (first | exact HB1.out | apply below_alloc | apply pw_below_drewN)) hg (by have := HB1.out.size; omega))
 have hRR := HRR.out
 rw [codeV, ← HLR.out] at hRR
 have HRR := Aside0.mk hRR
 clear hg hRR
 rcases E.cb with ⟨h1, h2⟩ | ⟨v, b, h1, h2, hR⟩
 ·have H1 := Aside0.mk h1
  clear h1 E
  go_wp2
  go_ret
  refine ⟨_, rfl, ?_, HBB.out⟩
  rw [HRR.out, H1.out]
  exact Kd.R_nil _ _ _ _ _
 ·have H1 := Aside0.mk h1
  have HH := Aside0.mk hR
  obtain ⟨A2, c2, rfl, _, _⟩ := Kd.R_reads hR
  clear h1 E hR
  go_wp2
  go_ret
  refine ⟨_, rfl, ?_, HBB.out⟩
  rw [HRR.out, H1.out]
  exact Kd.R_mono HH.out (fun _ _ => trivial)

end Go.Proofs.Ytfijnlbkflmkbaa.F
