/- Words on rows of rows that the walks by hand use: append to a full row makes a new one whose elements are only read. -/
import Derived.Test.YtnlhhbnoccobmaaWNEv
import Derived.Test.YtnlhhbnoccobmaaPureMem
namespace Go.Proofs.Ytnlhhbnoccobmaa.Mem
open Go.RowKit Go.Proofs.YtnlhhbnoccobmaaW.PrintWords Go.Proofs.YtnlhhbnoccobmaaW.PrintLast

/-- The cells of a row of rows that is read. -/
theorem cells_of_F {α : Type} {d : Kd α} (hd : d.sz = 1) {ok : Nat → Prop} {w : World} {A : Option Addr} {n : Nat} {xs : List α} (h : Kd.F d w ok A n xs) :
    ∃ vs : List Value, vs.length = n ∧ (A = none → n = 0 ∧ n = 0) ∧ (∀ b, A = some b → ∀ j u, vs[j]? = some u → w.cell? (b.add j) = some u) ∧ Reps (Kd.FK d w ok) d.sz xs vs := by
  obtain ⟨hl, _, hc⟩ := Kd.F_rows h
  rcases Nat.eq_zero_or_pos n with h0 | hp
  · subst h0
    have hx : xs = [] := List.eq_nil_of_length_eq_zero hl
    subst hx
    exact ⟨[], rfl, fun _ => ⟨rfl, rfl⟩, fun b _ j u hu => by simp at hu, Reps.none _ _⟩
  · obtain ⟨ad, rfl, hc2⟩ := hc hp
    have hcell : ∀ j p, xs[j]? = some p → ∃ u, Kd.FK d w ok p [u] ∧ w.cell? (ad.add j) = some u := fun j p hj => by
      obtain ⟨c, hcl, hk, hcc⟩ := hc2 j p hj
      rw [hd] at hcl
      obtain ⟨u, rfl⟩ := List.length_eq_one_iff.1 hcl
      have := hcc 0 u rfl
      rw [hd, Nat.mul_one, Nat.add_zero] at this
      exact ⟨u, hk, this⟩
    refine ⟨(List.range n).map fun j => (w.cell? (ad.add j)).getD undef, by simp, (fun e => by cases e), fun b hb j u hu => ?_, by simp [hl, hd], fun j p hj => ?_⟩
    · cases hb
      rw [List.getElem?_map] at hu
      obtain ⟨j', hj', rfl⟩ := Option.map_eq_some_iff.1 hu
      obtain ⟨hjn, e⟩ := List.getElem?_eq_some_iff.1 hj'
      rw [List.getElem_range] at e
      subst e
      rw [List.length_range] at hjn
      obtain ⟨u, _, hu⟩ := hcell j _ (List.getElem?_eq_getElem (by omega))
      rw [hu]; rfl
    · have hjn : j < n := by have := (List.getElem?_eq_some_iff.1 hj).1; omega
      obtain ⟨u, hk, hu⟩ := hcell j p hj
      rw [hd, Nat.mul_one]
      have : (((List.range n).map fun j => (w.cell? (ad.add j)).getD undef).drop j).take 1 = [u] := by
        rw [List.drop_eq_getElem_cons (by simpa using hjn)]
        simp [hu]
      rw [this]; exact hk
section
variable {P : Program} {ops : Array Oper} {Q : Exit → Act → World → Prop}
/-- append(x, p), x full and read, p in a block of its own: a new row; region that draws. -/
theorem step_append_full_rows {o : Oper} {a : Act} {w : World} {K : Act → World → Prop} {E : Prop} {α : Type} (d : Kd α) (hd : d.sz = 1) (hg : o.guard = none) (s x : Operand) (t e : TypeId) (z : Value) (bytes : Nat)
    (hop : o.op = Op.call { callee := Callee.builtin Builtin.append, args := #[s, x], argTypes := #[t, t] }) (ht : P.underlying t = some (.slice e)) (hinfo : (P.info? e).map (fun i => (i.zero, i.size, i.bytes)) = some (some z, 1, bytes)) (hz : z.cells.size = 1)
    (ok : Nat → Prop) (A : Option Addr) (n B : Nat) (xs : List α) (p : α) (c : Value) (hs : a.eval s = .slice A n n) (hx : a.eval x = .slice (some ⟨B, 0, none⟩) 1 1) (hF : Kd.F d w ok A n xs) (hB : w.heap[B]? = some (.cells #[c] e (0, 0))) (hp : Kd.FK d w ok p [c])
    (hl : n + 1 ≤ 17592186044416) (hl2 : (n + 1) * bytes ≤ 140737488355328)
    (hK : ∀ v' w', Kd.N d e w' w.heap.size (fun k => ok k ∨ w.heap.size ≤ k) v' (xs ++ [p]) → w.grownBy w' none → K (a.put o.dst v') w') :
    if Region.wanted o (yielded ops a.tmps) = true then Oper.wp P o a w K Q else E := by
  obtain ⟨i0, hi, hzz⟩ := Option.map_eq_some_iff.1 hinfo
  simp only [Prod.mk.injEq] at hzz
  obtain ⟨hz0, hz1, hz2⟩ := hzz
  obtain ⟨vs, hvl, hnone, hcells, hreps⟩ := cells_of_F hd hF
  have hxl : xs.length = n := (Kd.F_rows hF).1
  have hr2 : Reps (Kd.FK d w ok) d.sz (xs ++ [p]) (vs ++ [c]) := hreps.snoc hp (by rw [hd]; rfl)
  refine step_append_grows hg s x t hop e i0 z 1 bytes ht hi hz0 hz1 hz2 hz (by decide) A n n vs hs hnone (by omega) hcells ⟨B, 0, none⟩ 1 1 [c] hx rfl (World.news_of_block hB) (fun u hu => by rw [List.mem_singleton] at hu; rw [hu]; exact d.K_one (Kd.FK_now hp) c List.mem_cons_self) (by omega) (by unfold maxLen; omega) hl2 ?_
  intro v' w' hown hgr
  refine hK v' w' ?_ hgr
  have hlen : (xs ++ [p]).length = n + 1 := by rw [List.length_append, hxl]; rfl
  have hown2 : w'.ownsRow w.heap.size e d.sz v' (xs ++ [p]).length (vs ++ [c]) := by rw [hd, hlen]; exact hown
  refine ⟨fun k hk => .inr (own_base hown k hk), Kd.chunks d.sz (xs ++ [p]).length (vs ++ [c]), Kd.chunks_length _ _ _, ⟨fun k hk => hk.symm, vs ++ [c], by rw [Kd.chunks_length]; exact hown2, Kd.reps_raw hr2 (fun y q hk => ⟨d.K_len (Kd.FK_now hk), d.K_one (Kd.FK_now hk)⟩)⟩, fun j y q hy hq => ?_⟩
  rw [Kd.chunks_get hq]
  refine Kd.FK_mono (Kd.FK_step (Kd.FK_bound (hr2.2 j y hy)) (fun k hk hlt => hgr.block k hlt (by simp))) (fun k hk => ⟨.inl hk.1, fun he => ?_⟩)
  have := own_base hown k he.symm
  have := hk.2
  omega
end
/-- Arguments by other names. -/
theorem calls_args {P : Program} {f : FuncId} {as as' : Array Value} {w : World} {Q : Ending → World → Prop} (h : as' = as) (hc : Calls P f as' w Q) : Calls P f as w Q := h ▸ hc
theorem grown_put_new {w w1 : World} {row : Option Nat} {g : Nat} (h : w.grownBy w1 row) (hg : w.heap.size ≤ g) (i : Nat) (u : Value) : w.grownBy (w1.setCell ⟨g, i, none⟩ u) row :=
  ⟨h.os, h.tape, h.output, by simpa [World.setCell] using h.size, fun k hk hr => (Below.heap_setCell w1 ⟨g, i, none⟩ u k (fun e => by simp at e; omega)).trans (h.block k hk hr)⟩
section
variable {α : Type} {d : Kd α} {e base n cap g : Nat} {ok okp : Nat → Prop} {w : World} {v : Value} {xs : List α}
/-- Where a row of one's own that is not empty lies. -/
theorem N_head (h : Kd.N d e w base ok v xs) (hp : 0 < xs.length) : ∃ g c, v = .slice (some ⟨g, 0, none⟩) xs.length c ∧ xs.length ≤ c ∧ base ≤ g ∧ g < w.heap.size ∧ ok g := by
  obtain ⟨A, c, rfl⟩ := Kd.N_slice h
  have hr := Kd.N_reads' h
  obtain ⟨ad, rfl, _⟩ := hr.2.2.2.2 hp
  obtain ⟨g, rfl⟩ : ∃ g, ad = ⟨g, 0, none⟩ := by
    obtain ⟨_, rows, _, hR, _⟩ := h
    exact Kd.R_head hR
  have hb : (Value.slice (some ⟨g, 0, none⟩) xs.length c).ownBlock = some g := by simp [Value.ownBlock]
  exact ⟨g, c, rfl, hr.2.1, Kd.N_base h g hb, Kd.N_lt h g hb, h.1 g hb⟩
theorem N_cell (h : Kd.N d e w base ok (.slice (some ⟨g, 0, none⟩) n cap) xs) (hd : d.sz = 1) (j : Nat) (hj : j < n) : ∃ u, w.cell? ⟨g, j, none⟩ = some u ∧ w.frozen? ⟨g, j, none⟩ = false := by
  have hn := (Kd.N_reads' h).1
  obtain ⟨c, hcl, _, hcc, hfr⟩ := Kd.N_elem h (xs[j]'(by omega)) (j : Int) (by omega) (by omega)
  rw [hd] at hcl
  obtain ⟨u, rfl⟩ := List.length_eq_one_iff.1 hcl
  have h1 := hcc 0 u rfl
  have h2 := hfr 0
  rw [hd, Nat.mul_one, Nat.add_zero, Int.toNat_natCast] at h1 h2
  exact ⟨u, h1, h2⟩
/-- An element is written. -/
theorem N_put (h : Kd.N d e w base ok (.slice (some ⟨g, 0, none⟩) n cap) xs) (hd : d.sz = 1) (j : Nat) (hj : j < n) (x' : α) (u : Value) (hK : Kd.FK d w okp x' [u]) (hokp : ∀ k, okp k → ok k ∧ k ≠ g) :
    Kd.N d e (w.setCell ⟨g, j, none⟩ u) base ok (.slice (some ⟨g, 0, none⟩) n cap) (xs.set j x') := by
  have hn := (Kd.N_reads' h).1
  obtain ⟨c, hcl, _, hcc, _⟩ := Kd.N_elem h (xs[j]'(by omega)) (j : Int) (by omega) (by omega)
  have hcl1 : c.length = 1 := by rw [hcl, hd]
  have := (Kd.N_seg h (j : Int) (by omega) (by omega) (c := c) (seg := [u]) (j := 0) hcl hcc (by rw [hd]; simp) (x' := x') (okp := okp) (by
    rw [List.take_zero, List.nil_append, List.drop_of_length_le (by rw [hcl1]; simp), List.append_nil]; exact hK) hokp).1
  rw [hd, Nat.mul_one, Nat.add_zero, Int.toNat_natCast] at this
  exact this
end
theorem F_of_block {w : World} {B m e : Nat} {xs : List Int} (hb : w.heap[B]? = some (.cells (nums .i64 xs).toArray e (0, 0))) (hl : xs.length = m) (hm : m ≤ maxLen) {ok : Nat → Prop} (hok : ok B) : Kd.F (Kd.int .i64) w ok (some ⟨B, 0, none⟩) m xs := by
  have := Kd.R_F (R_of_block_ok hb hl hm (Nat.zero_le _) ok hok)
  exact this
end Go.Proofs.Ytnlhhbnoccobmaa.Mem
