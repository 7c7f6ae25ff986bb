/- A struct of a slice of numbers and a slice of such slices that came in: how it reads. -/
import Derived.Test.YtnlhhbnoccobmaaWWords
import Derived.Lib.SmallJoins
import Derived.Deep.Matrix
import Derived.WalkKit
import Derived.ProofKit
import Derived.OpenShut
namespace Go.Proofs.Ytnlhhbnoccobmaa.Open
open Go.ChangeShapes Go.WideShapes Go.RowKit Go.Joins Go.Deep Go.Proofs.YtnlhhbnoccobmaaW.PrintWords

theorem row_open {w : World} {P : Program} {H : Type} {enc : TypeId × Value → H} {t e : TypeId} {fuel : Nat} {v : Value} {x : DataW H × List MemPlace} (ht : P.underlying t = some (.slice e)) (he : P.underlying e = some (.int .i64)) (ce : P.cellsOf e = 1)
    (h : DataW.trod enc P w 0 (fun _ => true) true fuel t [v] = some x) : ∃ (A : Option Addr) (c : Nat) (l : List Int), v = .slice A l.length c ∧ Kd.C (Kd.int .i64) w A l.length l ∧ l.length ≤ c ∧ l.length ≤ maxLen ∧ ∀ n ∈ l, (Lit.int .i64 n).wf = true := by
  rcases open_ints ht he ce h with ⟨hcs, _⟩ | ⟨a, l, c, zs, hcs, _, hl, hm, hz, _, hcell, hwz⟩
  · obtain rfl : v = .slice none 0 0 := by simpa using hcs
    refine ⟨none, 0, [], rfl, ⟨rfl, Nat.zero_le _, fun hp => absurd hp (Nat.lt_irrefl _)⟩, Nat.le_refl _, Nat.zero_le _, by simp⟩
  · obtain rfl : v = .slice (some a) l c := by simpa using hcs
    simp only [if_true] at hz
    obtain ⟨l0, hll, hr0, hm0, hw0, hc0⟩ := ReadsInt.ofRowC (w := w) (k := .i64) (a := some a) (len := l) (cap := c) (zs := zs) (.inr ⟨a, rfl, hl, hm, hz, hcell, hwz⟩)
    subst hll
    exact ⟨some a, c, l0, rfl, Kd.C_of_reads (d := (0 : Int)) (h1 := fun _ => rfl) hr0, hc0, hm0, hw0⟩
theorem rows_open {w : World} {P : Program} {H : Type} {enc : TypeId × Value → H} {t e q : TypeId} {fuel : Nat} {v : Value} {x : DataW H × List MemPlace} (ht : P.underlying t = some (.slice e)) (he : P.underlying e = some (.slice q)) (hq : P.underlying q = some (.int .i64)) (ce : P.cellsOf e = 1) (cq : P.cellsOf q = 1)
    (h : DataW.trod enc P w 0 (fun _ => true) true fuel t [v] = some x) : ∃ (A : Option Addr) (c : Nat) (L : List (List Int)), v = .slice A L.length c ∧ Kd.C (Kd.slice q (Kd.int .i64)) w A L.length L ∧ L.length ≤ c ∧ L.length ≤ maxLen ∧ ∀ l ∈ L, l.length ≤ maxLen ∧ ∀ n ∈ l, (Lit.int .i64 n).wf = true := by
  rcases open_slice1 ht ce h with ⟨hcs, _⟩ | ⟨a, len, cap, m, n, V, D, Pl, hcs, _, hl, hm, hmm, _, hx⟩
  · obtain rfl : v = .slice none 0 0 := by simpa using hcs
    refine ⟨none, 0, [], rfl, ⟨rfl, Nat.zero_le _, fun hp => absurd hp (Nat.lt_irrefl _)⟩, Nat.le_refl _, Nat.zero_le _, by simp⟩
  · obtain rfl : v = .slice (some a) len cap := by simpa using hcs
    simp only [if_true] at hmm
    subst hmm
    have each : ∀ r, r < len → ∃ y : Option Addr × Nat × List Int, V r = .slice y.1 y.2.2.length y.2.1 ∧ Kd.C (Kd.int .i64) w y.1 y.2.2.length y.2.2 ∧ y.2.2.length ≤ y.2.1 ∧ y.2.2.length ≤ maxLen ∧ ∀ n ∈ y.2.2, (Lit.int .i64 n).wf = true := by
      intro r hr
      obtain ⟨A, c, l, h1, h2, h3, h4, h5⟩ := row_open he hq cq (hx r (by omega)).2
      exact ⟨(A, c, l), h1, h2, h3, h4, h5⟩
    obtain ⟨y, hy⟩ := choose_lt each
    have hlen : ((List.range len).map fun r => (y r).2.2).length = len := by simp
    have hm' := hm
    unfold maxLen at hm'
    refine ⟨some a, m, (List.range len).map fun r => (y r).2.2, by rw [hlen], ?_, by rw [hlen]; exact hl, by rw [hlen]; omega, fun l hl' => ?_⟩
    · refine ⟨rfl, by rw [hlen]; omega, fun _ => ⟨a, rfl, fun j p hj => ?_⟩⟩
      obtain ⟨hj1, hj2⟩ := List.getElem?_eq_some_iff.1 hj
      have hjl : j < len := by rw [hlen] at hj1; exact hj1
      rw [List.getElem_map, List.getElem_range] at hj2
      obtain ⟨h1, h2, h3, _, _⟩ := hy j hjl
      rw [hj2] at h1 h2 h3
      refine ⟨[V j], rfl, ?_, fun i u hu => ?_⟩
      · rw [h1]; exact ⟨_, _, rfl, h3, h2⟩
      · cases i with
        | zero =>
          rw [show (Kd.slice q (Kd.int .i64)).sz = 1 from rfl, Nat.mul_one, Nat.add_zero]
          rw [(hx j (by omega)).1]
          simpa using hu
        | succ i => simp at hu
    · obtain ⟨r, hr, rfl⟩ := List.mem_map.1 hl'
      have := hy r (List.mem_range.1 hr)
      exact ⟨this.2.2.2.1, this.2.2.2.2⟩
/-- A struct of a slice of numbers and a slice of such slices. -/
theorem web_open {w : World} {P : Program} {H : Type} {enc : TypeId × Value → H} {r : Reach} {b0 : Nat} {t e q ti : TypeId} {f0 f1 : Field} {v : Value} {d : DataW H} {p : List MemPlace} (hs : P.underlying t = some (.struct #[f0, f1])) (h0 : f0.type = e) (h1 : f1.type = ti) (hone : oneCellFields P #[f0, f1] = true) (hC : P.cellsOf t = 2)
    (ht : P.underlying ti = some (.slice e)) (he : P.underlying e = some (.slice q)) (hq : P.underlying q = some (.int .i64)) (ce : P.cellsOf e = 1) (cq : P.cellsOf q = 1)
    (hv : Value.okWide P w r b0 t v) (h : DataW.Trod enc P w 0 (fun _ => true) true t v d p) :
    ∃ (A0 : Option Addr) (c0 : Nat) (l : List Int) (A1 : Option Addr) (c1 : Nat) (L : List (List Int)), v = .agg #[.slice A0 l.length c0, .slice A1 L.length c1] ∧ Kd.C (Kd.int .i64) w A0 l.length l ∧ l.length ≤ c0 ∧ Kd.C (Kd.slice q (Kd.int .i64)) w A1 L.length L ∧ L.length ≤ c1 ∧ l.length ≤ maxLen ∧ L.length ≤ maxLen ∧ (∀ n ∈ l, (Lit.int .i64 n).wf = true) ∧ ∀ m ∈ L, m.length ≤ maxLen ∧ ∀ n ∈ m, (Lit.int .i64 n).wf = true := by
  obtain ⟨v0, v1, y0, y1, n, rfl, _, _, g0, g1⟩ := open_agg2 hs hone hC hv h
  rw [h0] at g0
  rw [h1] at g1
  obtain ⟨A0, c0, l, rfl, a1, a2, a3, a4⟩ := row_open he hq cq g0
  obtain ⟨A1, c1, L, rfl, b1, b2, b3, b4⟩ := rows_open ht he hq ce cq g1
  exact ⟨A0, c0, l, A1, c1, L, rfl, a1, a2, b1, b2, a3, b3, a4, b4⟩
end Go.Proofs.Ytnlhhbnoccobmaa.Open
