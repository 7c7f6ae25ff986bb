/- What impl_ExchangeLegs answers, and that the Go text comes to it: for every world in which the arguments read as told. -/
import Derived.Test.YtnlhhbnoccobmaaFgA
import Derived.Test.YtnlhhbnoccobmaaFx111
import Derived.Test.YtnlhhbnoccobmaaFx123
import Derived.Test.YtnlhhbnoccobmaaPureMem
import Derived.WalkSpells
import Derived.BigRegion
import Derived.BigQuiet
namespace Go.Proofs.Ytnlhhbnoccobmaa.F
open Go.RowKit Go.Proofs.YtnlhhbnoccobmaaW.PrintWords Go.Proofs.YtnlhhbnoccobmaaW.PrintLast Go.Proofs.YtnlhhbnoccobmaaW.PrintMore
attribute [local go_sem] max2_int min2_int max_two min_two max_three min_three max_four min_four   -- for this text's walks alone
set_option linter.unusedVariables false
set_option linter.unusedSimpArgs false

/-! ### impl_ExchangeLegs: function 43 (by hand) -/
open Go.Proofs.Ytnlhhbnoccobmaa.Mem
def swapAt (l : List Int) (i : Nat) : List Int := (l.set i (l.getD (i + 1) 0)).set (i + 1) (l.getD i 0)
def impl_ExchangeLegs.f (k : Nat) (l0_0 : List Int) (l0_1 : List (List Int)) (a1 : Int) : Option (List Int × (List (List Int)) × Int) := (impl_legsFault.f l0_0 l0_1 a1).bind fun t => if t = 0 then (impl_cloneWeb.f k l0_0 l0_1).bind fun b => (if 0 ≤ a1 ∧ a1 + 1 < (b.1.length : Int) ∧ a1 < 1000000 then some (swapAt b.1 a1.toNat, b.2, 0) else none) else some ([], [], t)
set_option maxHeartbeats 8000000 in
set_option maxRecDepth 100000 in
theorem exchange_one (k : Nat) (A0_0 : Option Addr) (c0_0 : Nat) (l0_0 : List Int) (A0_1 : Option Addr) (c0_1 : Nat) (l0_1 : List (List Int)) (i : Nat) (r1 : List Int) (r2 : List (List Int)) (w : World) (hr0_0 : Kd.C (Kd.int .i64) w A0_0 l0_0.length l0_0) (hc0_0 : l0_0.length ≤ c0_0) (hr0_1 : Kd.C (Kd.slice 2 (Kd.int .i64)) w A0_1 l0_1.length l0_1) (hc0_1 : l0_1.length ≤ c0_1) (h1 : impl_legsFault.f l0_0 l0_1 (i : Int) = some 0) (h2 : impl_cloneWeb.f k l0_0 l0_1 = some (r1, r2)) (hi : i + 1 < r1.length) (hi6 : i < 1000000) :
  Calls Try.prog 43 #[.agg #[.slice A0_0 l0_0.length c0_0, .slice A0_1 l0_1.length c0_1], .int .i64 (i : Int)] w fun e w' => ∃ v0_ v1_ : Value, e = .returned (.tuple #[.agg #[v0_, v1_], .int .i64 0]) ∧ Kd.R (Kd.int .i64) 2 w' w.heap.size (fun _ => True) v0_ (swapAt r1 i) ∧ Kd.S (Kd.slice 2 (Kd.int .i64)) 22 w' w.heap.size (fun k_ => some k_ ≠ (v0_ : Value).ownBlock) v1_ r2 ∧ Below w.heap.size w w' := by
 have hu28 := Try.underlying28
 have HR0 := Aside0.mk hr0_0
 have HC0 := Aside0.mk hc0_0
 have HR1 := Aside0.mk hr0_1
 have HC1 := Aside0.mk hc0_1
 have H1 := Aside0.mk h1
 have H2 := Aside0.mk h2
 have HI := Aside0.mk hi
 have e1 : wrap64 ((i : Int) + 1) = ((i + 1 : Nat) : Int) := by unfold wrap64; omega
 clear hr0_0 hc0_0 hr0_1 hc0_1 h1 h2 hi hi6
 go_enter Try.func43, Try.ntmps43
 go_wp2_with fail
 have b0 : ((w.alloc (.cells #[.slice A0_0 l0_0.length c0_0, .slice A0_1 l0_1.length c0_1] 28)).alloc (.cells #[.slice none 0 0, .slice none 0 0] 28)).heap[w.heap.size]? = some (.cells #[.slice A0_0 l0_0.length c0_0, .slice A0_1 l0_1.length c0_1] 28 (0, 0)) := blk_alloc (new_at rfl) _
 have b1 : ((w.alloc (.cells #[.slice A0_0 l0_0.length c0_0, .slice A0_1 l0_1.length c0_1] 28)).alloc (.cells #[.slice none 0 0, .slice none 0 0] 28)).heap[w.heap.size + 1]? = some (.cells #[.slice none 0 0, .slice none 0 0] 28 (0, 0)) := new_at (by simp)
 have hB : Below w.heap.size w ((w.alloc (.cells #[.slice A0_0 l0_0.length c0_0, .slice A0_1 l0_1.length c0_1] 28)).alloc (.cells #[.slice none 0 0, .slice none 0 0] 28)) := below_alloc (below_alloc (Below.refl _ _) _) _
 generalize ((w.alloc (.cells #[.slice A0_0 l0_0.length c0_0, .slice A0_1 l0_1.length c0_1] 28)).alloc (.cells #[.slice none 0 0, .slice none 0 0] 28)) = W0 at b0 b1 hB ⊢
 refine (impl_legsFault.calls A0_0 c0_0 l0_0 A0_1 c0_1 l0_1 (i : Int) 0 _ (Kd.C_below HR0.out hB) HC0.out (Kd.C_below HR1.out hB) HC1.out H1.out).mono ?_
 rintro e w1 ⟨rfl, hb1⟩
 have b0 := blk_below b0 hb1
 have b1 := blk_below b1 hb1
 have hB := below_step hB hb1
 have c0 : w1.cell? ⟨w.heap.size, 0, none⟩ = some (.slice A0_0 l0_0.length c0_0) := (blk_cell b0 0).trans rfl
 have c1 : w1.cell? ⟨w.heap.size, 1, none⟩ = some (.slice A0_1 l0_1.length c0_1) := (blk_cell b0 1).trans rfl
 have HL0 := Aside0.mk (show w.heap.size + 1 < w1.heap.size from blk_lt b1)
 have B0 := Aside0.mk b0
 have B1 := Aside0.mk b1
 have HB := Aside0.mk hB
 clear b0 b1 hB hb1
 clear b0 b1 hB
 go_wp2_with fail
 refine (impl_cloneWeb.calls k A0_0 c0_0 l0_0 A0_1 c0_1 l0_1 r1 r2 _ (Kd.C_below HR0.out HB.out) HC0.out (Kd.C_below HR1.out HB.out) HC1.out H2.out).mono ?_
 rintro e w2 ⟨v0, v1, rfl, ho0, ho1, hb2⟩
 obtain ⟨g, co, rfl, gb, gl, cl, HG⟩ := Kd.R_form ho0 (by have := HI.out; omega)
 obtain ⟨A1, co1, rfl⟩ := Kd.S_slice ho1
 have O0 := Aside0.mk ho0
 have O1 := Aside0.mk ho1
 have B0 := Aside0.mk (blk_below B0.out hb2)
 have B1 := Aside0.mk (blk_below B1.out hb2)
 have HBS := Aside0.mk hb2
 have HB2 := Aside0.mk (below_step HB.out hb2)
 have GB := Aside0.mk gb
 have GL := Aside0.mk gl
 have GG := Aside0.mk HG
 clear ho0 ho1 hb2 gb gl HG c0 c1
 go_wp2_with fail
 have hw7 := @new_at w2 (.cells #[.slice (some ⟨g, 0, none⟩) r1.length co, .slice A1 r2.length co1] 28) _ rfl
 have hR7 := Kd.R_alloc O0.out (.cells #[.slice (some ⟨g, 0, none⟩) r1.length co, .slice A1 r2.length co1] 28)
 have hS7 := Kd.S_alloc O1.out (.cells #[.slice (some ⟨g, 0, none⟩) r1.length co, .slice A1 r2.length co1] 28)
 have hB7 := below_alloc HB2.out (.cells #[.slice (some ⟨g, 0, none⟩) r1.length co, .slice A1 r2.length co1] 28)
 have b17 := blk_alloc B1.out (.cells #[.slice (some ⟨g, 0, none⟩) r1.length co, .slice A1 r2.length co1] 28)
 have hne : g ≠ w2.heap.size := by have := GL.out; omega
 have hlt1 : w.heap.size + 1 < w2.heap.size := blk_lt B1.out
 generalize (w2.alloc (.cells #[.slice (some ⟨g, 0, none⟩) r1.length co, .slice A1 r2.length co1] 28)) = W3 at hw7 hR7 hS7 hB7 b17 ⊢
 obtain ⟨B7, hB7e⟩ : ∃ B, B = w2.heap.size := ⟨_, rfl⟩
 rw [← hB7e] at hw7 hne hlt1 ⊢
 obtain ⟨x, hx⟩ : ∃ x, x = r1.getD i 0 := ⟨_, rfl⟩
 obtain ⟨y, hy⟩ : ∃ y, y = r1.getD (i + 1) 0 := ⟨_, rfl⟩
 obtain ⟨N, hN⟩ : ∃ N, N = r1.length := ⟨_, rfl⟩
 have hi := HI.out
 have hC7 := (Kd.R_reads hR7).choose_spec
 have x0 : W3.cell? ⟨g, i, none⟩ = some (.int .i64 x) := by
  have := (Kd.R_celln 0 hR7 (i : Int) (by omega) (by omega)).1
  rw [hx]; simpa [rdOf, rd] using this
 have x1 : W3.cell? ⟨g, i + 1, none⟩ = some (.int .i64 y) := by
  have := (Kd.R_celln 0 hR7 ((i + 1 : Nat) : Int) (by omega) (by omega)).1
  rw [hy]; simpa [rdOf, rd] using this
 have f0 : W3.frozen? ⟨g, i, none⟩ = false := by
  have := (Kd.R_celln 0 hR7 (i : Int) (by omega) (by omega)).2
  simpa using this
 have f1 : W3.frozen? ⟨g, i + 1, none⟩ = false := by
  have := (Kd.R_celln 0 hR7 ((i + 1 : Nat) : Int) (by omega) (by omega)).2
  simpa using this
 have c7 : W3.cell? ⟨B7, 0, none⟩ = some (.slice (some ⟨g, 0, none⟩) r1.length co) := (blk_cell hw7 0).trans rfl
 have c7' : (W3.setCell ⟨g, i, none⟩ (.int .i64 y)).cell? ⟨B7, 0, none⟩ = some (.slice (some ⟨g, 0, none⟩) r1.length co) := (blk_cell (blk_far hw7 (by exact Ne.symm hne) _) 0).trans rfl
 have f1' : (W3.setCell ⟨g, i, none⟩ (.int .i64 y)).frozen? ⟨g, i + 1, none⟩ = false := (World.frozen?_setCell _ _ _ _).trans f1
 rw [← hN] at c7 c7' hi ⊢
 have t0 : decide ((i : Int) < (N : Int)) = true := decide_eq_true (by omega)
 have t1 : decide (((i + 1 : Nat) : Int) < (N : Int)) = true := decide_eq_true (by omega)
 have hi0 : i < N := by omega
 have B7 := Aside0.mk hw7
 have R7 := Aside0.mk hR7
 have S7 := Aside0.mk hS7
 have HB7 := Aside0.mk hB7
 have B17 := Aside0.mk b17
 have HNE := Aside0.mk hne
 have HLT1 := Aside0.mk hlt1
 have HX := Aside0.mk hx
 have HY := Aside0.mk hy
 have HN := Aside0.mk hN
 clear hw7 hR7 hS7 hB7 b17 hne hlt1 hx hy hN hC7 hB7e
 go_region
 have hg1 : w.heap.size + 1 < g := by have := HL0.out; have := GB.out; omega
 have R5 := Kd.R_putn (Kd.R_putn R7.out (i : Int) y) ((i + 1 : Nat) : Int) x
 rw [Int.toNat_natCast, Int.toNat_natCast, HX.out, HY.out] at R5
 rw [← HX.out, ← HY.out] at R5
 have S5 := Kd.S_far (p := ⟨g, i + 1, none⟩) (Kd.S_far (p := ⟨g, i, none⟩) S7.out (fun k hk e => hk (by rw [e]; rfl)) (.int .i64 y)) (fun k hk e => hk (by rw [e]; rfl)) (.int .i64 x)
 have b15 := blk_far (blk_far B17.out (p := ⟨g, i, none⟩) (by show _ ≠ g; omega) (.int .i64 y)) (p := ⟨g, i + 1, none⟩) (by show _ ≠ g; omega) (.int .i64 x)
 have b75 := blk_far (blk_far B7.out (p := ⟨g, i, none⟩) (Ne.symm HNE.out) (.int .i64 y)) (p := ⟨g, i + 1, none⟩) (Ne.symm HNE.out) (.int .i64 x)
 have hB5 := below_set (j := i + 1) (v := .int .i64 x) (below_set (j := i) (v := .int .i64 y) HB7.out (show w.heap.size ≤ g by omega)) (show w.heap.size ≤ g by omega)
 replace R5 := Kd.R_drew R5
 replace S5 := Kd.S_drew S5
 replace b15 := blk_drew b15
 replace b75 := blk_drew b75
 replace hB5 := below_drew1 hB5
 clear x0 x1 f0 f1 c7 c7' f1'
 generalize ((W3.setCell ⟨g, i, none⟩ (.int .i64 y)).setCell ⟨g, i + 1, none⟩ (.int .i64 x)).drew = W5 at R5 S5 b15 b75 hB5 ⊢
 have c70 := (blk_cell b75 0).trans rfl
 have c71 := (blk_cell b75 1).trans rfl
 have z0 := blk_frozen b15 0
 have z1 := blk_frozen b15 1
 have d0 := (blk_cell b15 0).trans rfl
 have d1 := (blk_cell b15 1).trans rfl
 have R5 := Aside0.mk R5
 have S5 := Aside0.mk S5
 have B15 := Aside0.mk b15
 have HB5 := Aside0.mk hB5
 clear b15 b75 hB5
 go_wp2_with fail
 have hn := HN.out
 subst hn
 refine bodyPost_ret (results_ct rfl _ _ (w.heap.size + 1) 28 #[.slice (some ⟨g, 0, none⟩) r1.length co, .slice A1 r2.length co1] (0, 0) _ rfl (blk_put (cs := #[.slice (some ⟨g, 0, none⟩) r1.length co, .slice none 0 0]) (blk_put (cs := #[.slice none 0 0, .slice none 0 0]) B15.out 0 _ rfl) 1 _ rfl) Try.underlying28 rfl (by kernel_rfl)) rfl ?_
 refine ⟨_, _, rfl, ?_, ?_, below_set (below_set HB5.out (Nat.le_succ _)) (Nat.le_succ _)⟩
 ·rw [show swapAt r1 i = (r1.set i y).set (i + 1) x from by unfold swapAt; rw [← HX.out, ← HY.out]]
  exact Kd.R_lower (Kd.R_mono (Kd.R_far (p := ⟨w.heap.size + 1, 1, none⟩) (Kd.R_far (p := ⟨w.heap.size + 1, 0, none⟩) (Kd.R_types R5.out B15.out (by decide)) (fun _ hk => hk.2) _) (fun _ hk => hk.2) _) (fun _ hk => trivial)) (below_size HB.out)
 ·exact Kd.S_lower (Kd.S_mono (Kd.S_far (p := ⟨w.heap.size + 1, 1, none⟩) (Kd.S_far (p := ⟨w.heap.size + 1, 0, none⟩) (Kd.S_types S5.out B15.out (by decide)) (fun _ hk => hk.2) _) (fun _ hk => hk.2) _) (fun _ hk => hk.1)) (below_size HB.out)
set_option maxHeartbeats 8000000 in
set_option maxRecDepth 100000 in
theorem exchange_two (A0_0 : Option Addr) (c0_0 : Nat) (l0_0 : List Int) (A0_1 : Option Addr) (c0_1 : Nat) (l0_1 : List (List Int)) (a1 t : Int) (w : World) (hr0_0 : Kd.C (Kd.int .i64) w A0_0 l0_0.length l0_0) (hc0_0 : l0_0.length ≤ c0_0) (hr0_1 : Kd.C (Kd.slice 2 (Kd.int .i64)) w A0_1 l0_1.length l0_1) (hc0_1 : l0_1.length ≤ c0_1) (h1 : impl_legsFault.f l0_0 l0_1 a1 = some t) (ht : t ≠ 0) :
  Calls Try.prog 43 #[.agg #[.slice A0_0 l0_0.length c0_0, .slice A0_1 l0_1.length c0_1], .int .i64 a1] w fun e w' => e = .returned (.tuple #[.agg #[.slice none 0 0, .slice none 0 0], .int .i64 t]) ∧ Below w.heap.size w w' := by
 have hu28 := Try.underlying28
 have HR0 := Aside0.mk hr0_0
 have HC0 := Aside0.mk hc0_0
 have HR1 := Aside0.mk hr0_1
 have HC1 := Aside0.mk hc0_1
 have H1 := Aside0.mk h1
 have t1 : (t == 0) = false := beq_eq_false_iff_ne.2 ht
 have t2 : (t != 0) = true := bne_iff_ne.2 ht
 clear hr0_0 hc0_0 hr0_1 hc0_1 h1 ht
 go_enter Try.func43, Try.ntmps43
 go_wp2_with fail
 have b1 : ((w.alloc (.cells #[.slice A0_0 l0_0.length c0_0, .slice A0_1 l0_1.length c0_1] 28)).alloc (.cells #[.slice none 0 0, .slice none 0 0] 28)).heap[w.heap.size + 1]? = some (.cells #[.slice none 0 0, .slice none 0 0] 28 (0, 0)) := new_at (by simp)
 have hB : Below w.heap.size w ((w.alloc (.cells #[.slice A0_0 l0_0.length c0_0, .slice A0_1 l0_1.length c0_1] 28)).alloc (.cells #[.slice none 0 0, .slice none 0 0] 28)) := below_alloc (below_alloc (Below.refl _ _) _) _
 generalize ((w.alloc (.cells #[.slice A0_0 l0_0.length c0_0, .slice A0_1 l0_1.length c0_1] 28)).alloc (.cells #[.slice none 0 0, .slice none 0 0] 28)) = W0 at b1 hB ⊢
 refine (impl_legsFault.calls A0_0 c0_0 l0_0 A0_1 c0_1 l0_1 a1 t _ (Kd.C_below HR0.out hB) HC0.out (Kd.C_below HR1.out hB) HC1.out H1.out).mono ?_
 rintro e w1 ⟨rfl, hb1⟩
 have b1 := blk_below b1 hb1
 have hB := below_step hB hb1
 have z0 := blk_frozen b1 0
 have z1 := blk_frozen b1 1
 have d0 := (blk_cell b1 0).trans rfl
 have d1 := (blk_cell b1 1).trans rfl
 have B1 := Aside0.mk b1
 have HB := Aside0.mk hB
 clear b1 hB hb1
 clear b1 hB
 go_wp2_with fail
 refine bodyPost_ret (results_ct rfl _ _ (w.heap.size + 1) 28 #[.slice none 0 0, .slice none 0 0] (0, 0) _ rfl (blk_put (cs := #[.slice none 0 0, .slice none 0 0]) (blk_put (cs := #[.slice none 0 0, .slice none 0 0]) B1.out 0 _ rfl) 1 _ rfl) Try.underlying28 rfl (by kernel_rfl)) rfl ?_
 exact ⟨rfl, below_set (below_set HB.out (Nat.le_succ _)) (Nat.le_succ _)⟩
theorem impl_ExchangeLegs.mono : ∀ a0 a1 a2 k, LeO (impl_ExchangeLegs.f k a0 a1 a2) (impl_ExchangeLegs.f (k + 1) a0 a1 a2) := fun _ _ _ _ => LeO.bind (LeO.refl _) fun _ => LeO.ite (LeO.bind (impl_cloneWeb.mono _ _ _) fun _ => LeO.refl _) (LeO.refl _)
theorem impl_ExchangeLegs.calls (k : Nat) (A0_0 : Option Addr) (c0_0 : Nat) (l0_0 : List Int) (A0_1 : Option Addr) (c0_1 : Nat) (l0_1 : List (List Int)) (a1 : Int) (r1 : List Int) (r2 : List (List Int)) (r3 : Int) (w : World) (hr0_0 : Kd.C (Kd.int .i64) w A0_0 l0_0.length l0_0) (hc0_0 : l0_0.length ≤ c0_0) (hr0_1 : Kd.C (Kd.slice 2 (Kd.int .i64)) w A0_1 l0_1.length l0_1) (hc0_1 : l0_1.length ≤ c0_1) (h : impl_ExchangeLegs.f k l0_0 l0_1 a1 = some (r1, r2, r3)) :
  Calls Try.prog 43 #[.agg #[.slice A0_0 l0_0.length c0_0, .slice A0_1 l0_1.length c0_1], .int .i64 a1] w fun e w' => ∃ v0_ v1_ : Value, e = .returned (.tuple #[.agg #[v0_, v1_], .int .i64 r3]) ∧ Kd.R (Kd.int .i64) 2 w' w.heap.size (fun _ => True) v0_ r1 ∧ Kd.S (Kd.slice 2 (Kd.int .i64)) 22 w' w.heap.size (fun k_ => some k_ ≠ (v0_ : Value).ownBlock) v1_ r2 ∧ Below w.heap.size w w' := by
 unfold impl_ExchangeLegs.f at h
 obtain ⟨t, ht, h⟩ := Option.bind_eq_some_iff.1 h
 by_cases g : t = 0
 ·rw [if_pos g] at h
  subst g
  obtain ⟨⟨u1, u2⟩, hu, h⟩ := Option.bind_eq_some_iff.1 h
  by_cases q : 0 ≤ a1 ∧ a1 + 1 < (u1.length : Int) ∧ a1 < 1000000
  ·rw [if_pos q] at h
   simp only [Option.some.injEq, Prod.mk.injEq] at h
   obtain ⟨rfl, rfl, rfl⟩ := h
   obtain ⟨i, rfl⟩ : ∃ i : Nat, a1 = (i : Int) := ⟨a1.toNat, by omega⟩
   rw [Int.toNat_natCast]
   exact exchange_one k A0_0 c0_0 l0_0 A0_1 c0_1 l0_1 i u1 u2 w hr0_0 hc0_0 hr0_1 hc0_1 ht hu (by omega) (by omega)
  ·rw [if_neg q] at h; exact absurd h (by simp)
 ·rw [if_neg g] at h
  simp only [Option.some.injEq, Prod.mk.injEq] at h
  obtain ⟨rfl, rfl, rfl⟩ := h
  refine (exchange_two A0_0 c0_0 l0_0 A0_1 c0_1 l0_1 a1 t w hr0_0 hc0_0 hr0_1 hc0_1 ht g).mono ?_
  rintro e w' ⟨rfl, hb⟩
  exact ⟨_, _, rfl, Kd.R_nil _ _ _ _ _, Kd.S_nil _ _ _ _ _, hb⟩

end Go.Proofs.Ytnlhhbnoccobmaa.F
