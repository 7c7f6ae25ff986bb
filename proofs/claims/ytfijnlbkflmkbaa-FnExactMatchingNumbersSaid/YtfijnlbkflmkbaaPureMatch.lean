/- Plain laws: what MatchingNumbers comes to on both sides. -/
import Derived.Test.YtfijnlbkflmkbaaFx110
import Derived.Test.YtfijnlbkflmkbaaFx44
import Derived.Test.YtfijnlbkflmkbaaFx45
import Derived.Test.YtfijnlbkflmkbaaPureE
import Derived.Test.YtfijnlbkflmkbaaPureBits
namespace Go.Proofs.Ytfijnlbkflmkbaa.Pure
open Go.RowKit Go.Proofs.Ytfijnlbkflmkbaa.F Go.Proofs.YtfijnlbkflmkbaaW.PrintWords Go.Proofs.YtfijnlbkflmkbaaW.PrintLast

theorem Ev_pred {α : Type} {g f : Nat → Option α} {r : α} (h : ∀ k, g (k + 1) = f k) (e : Ev g r) : Ev f r := by
  obtain ⟨K, hK⟩ := e
  exact ⟨K, fun k hk => by rw [← h]; exact hK _ (by omega)⟩
theorem rd_rows {w : List Int} {i : Nat} (hi : i < w.length / 2) : rd_L1 (rowsOf w) (i : Int) = rowTo w i (w.length / 2) := by
  unfold rd_L1; rw [Int.toNat_natCast]; exact rowsOf_get hi
/-- What is taken, as a list and as bits. -/
structure Taken (n v : Nat) (used : List Int) (t c : Nat) : Prop where
  lt : t < 2 ^ n
  len : used.length = 2 * c
  bit : ∀ j, v ≤ j → j < n → used.contains (j : Int) = t.testBit j
  nod : used.Nodup
  mem : ∀ x ∈ used, 0 ≤ x ∧ x < (n : Int)
theorem Taken.next {n v : Nat} {used : List Int} {t c : Nat} (h : Taken n v used t c) : Taken n (v + 1) used t c := ⟨h.lt, h.len, fun j hj hn => h.bit j (by omega) hn, h.nod, h.mem⟩
theorem Taken.add {n v k : Nat} {used : List Int} {t c : Nat} (h : Taken n v used t c) (hvk : v < k) (hk : k < n) (h1 : t.testBit v = false) (h2 : t.testBit k = false) : Taken n (v + 1) (used ++ [(v : Int), (k : Int)]) (t ||| 2 ^ k) (c + 1) := by
  have c1 : used.contains (v : Int) = false := by rw [h.bit v (by omega) (by omega), h1]
  have c2 : used.contains (k : Int) = false := by rw [h.bit k (by omega) hk, h2]
  refine ⟨Nat.or_lt_two_pow h.lt (Nat.pow_lt_pow_right (by decide) hk), by rw [List.length_append, h.len]; simp; omega, fun j hj hn => ?_, used_app h.nod c1 c2 (by omega), mem_app h.mem (by omega) hk⟩
  rw [Nat.testBit_or, Nat.testBit_two_pow, ← h.bit j (by omega) hn]
  rw [Bool.eq_iff_iff]
  simp only [List.contains_iff_mem, List.mem_append, List.mem_cons, Bool.or_eq_true, decide_eq_true_eq, List.not_mem_nil, or_false]
  constructor
  · rintro (g | g | g)
    · exact .inl g
    · omega
    · exact .inr (by omega)
  · rintro (g | g)
    · exact .inl g
    · exact .inr (.inr (by omega))
theorem matchW_skip (X : Nat → Nat → Bool) (d i : Nat) (used out : List Int) (h : used.contains (i : Int) = true) : matchW X (d + 1) i used out = matchW X d (i + 1) used out := by
  rw [matchW]
  generalize matchW X d (i + 1) used out = o
  suffices g : ∀ l : List Nat, l.foldl (fun o j => if !used.contains (i : Int) && !used.contains ((i + 1 + j : Nat) : Int) && X i (i + 1 + j) then matchW X d (i + 1) (used ++ [(i : Int), ((i + 1 + j : Nat) : Int)]) o else o) o = o from g _
  intro l
  induction l with
  | nil => rfl
  | cons a l ih =>
    rw [List.foldl_cons, if_neg (by rw [h]; simp)]
    exact ih
theorem smatch_ev (w : List Int) (hw : Word w) (n : Nat) (hn : n = w.length / 2) : ∀ (d v : Nat) (used : List Int) (t c : Nat) (out : List Int), v + d = n → Taken n v used t c → out.length = n / 2 + 1 →
    Ev (fun k => spec_l10Match.f k (rowsOf w) (v : Int) (t : Int) (c : Int) out) (matchW (crossB w) d v used out) := by
  have hle := hw.le
  have hl : (rowsOf w).length = n := by rw [hn]; exact rowsTo_len w _
  intro d
  induction d with
  | zero =>
    intro v used t c out hv T ho
    have h1 := used_len T.nod T.mem
    have h2 := T.len
    refine Ev_succ (Ev_succ (Ev_succ ?_))
    simp only [spec_l10Match.f, spec_l10Match.l0]
    refine Ev.congr (fun k => if_neg (by omega)) ?_
    simp only [spec_l10Match.j1]
    refine Ev.congr (fun k => if_pos (by omega)) ?_
    refine Ev.congr (fun k => if_pos (by omega)) ?_
    refine Ev.congr (fun k => if_pos (by omega)) ?_
    rw [matchW, show used.length / 2 = c from by omega, rdN, Int.toNat_natCast]
    exact Ev.now _
  | succ d ih =>
    intro v used t c out hv T ho
    have h1 := used_len T.nod T.mem
    have h2 := T.len
    have ht62 : t < 2 ^ 62 := Nat.lt_of_lt_of_le T.lt (Nat.pow_le_pow_right (by decide) (by omega))
    have hvb := T.bit v (Nat.le_refl _) (by omega)
    have hbit := bit_at t v ht62 (by omega)
    refine Ev_succ (Ev_succ ?_)
    simp only [spec_l10Match.f, spec_l10Match.l0]
    refine Ev.congr (fun k => if_pos (by omega)) ?_
    rw [u64_nat v (by omega)]
    refine Ev.congr (fun k => if_pos (by omega)) ?_
    rw [hbit]
    by_cases hb : t.testBit v = true
    · rw [if_pos hb]
      refine Ev.congr (fun k => if_pos rfl) ?_
      rw [wS (by omega), matchW_skip _ _ _ _ _ (by rw [hvb, hb])]
      exact Ev_pred (g := fun k => spec_l10Match.f k (rowsOf w) ((v + 1 : Nat) : Int) (t : Int) (c : Int) out) (fun k => by simp only [spec_l10Match.f]) (ih (v + 1) used t c out (by omega) T.next ho)
    · rw [if_neg hb]
      have hb' : t.testBit v = false := by simpa using hb
      refine Ev.congr (fun k => if_neg (by decide)) ?_
      refine Ev_succ ?_
      simp only [spec_l10Match.j1]
      refine Ev.congr (fun k => if_neg (by omega)) ?_
      rw [wS (by omega)]
      refine Ev.bind (ih (v + 1) used t c out (by omega) T.next ho) ?_
      show Ev _ (matchTo (crossB w) d v used out d)
      have key : ∀ q j, j + q = d → Ev (fun k => spec_l10Match.l1 k (rowsOf w) (v : Int) (t : Int) (c : Int) (matchTo (crossB w) d v used out j) ((v + 1 + j : Nat) : Int)) (matchTo (crossB w) d v used out d) := by
        intro q
        induction q with
        | zero =>
          intro j hj
          refine Ev_succ ?_
          simp only [spec_l10Match.l1]
          refine Ev.congr (fun k => if_neg (by omega)) ?_
          rw [show j = d from by omega]
          exact Ev.now _
        | succ q ihq =>
          intro j hj
          have hh := ihq (j + 1) (by omega)
          refine Ev_succ ?_
          simp only [spec_l10Match.l1]
          refine Ev.congr (fun k => if_pos (by omega)) ?_
          refine Ev.congr (fun k => if_pos (by omega)) ?_
          refine Ev.congr (fun k => if_pos (by omega)) ?_
          refine Ev.congr (fun k => if_pos (by omega)) ?_
          rw [rd_rows (by omega), rdN, rowTo_get (by omega), wS (by omega)]
          refine Ev.congr (fun k => if_pos (by rw [rowTo_len]; omega)) ?_
          have hcb := T.bit (v + 1 + j) (by omega) (by omega)
          rw [matchTo_succ, hvb, hb', hcb] at hh
          rw [u64_nat (v + 1 + j) (by omega), bit_at t (v + 1 + j) ht62 (by omega)]
          by_cases hx : crossB w v (v + 1 + j) = true
          · refine Ev.congr (fun k => if_pos (by unfold ent; rw [if_pos hx])) ?_
            refine Ev.congr (fun k => if_pos (by omega)) ?_
            by_cases hk : t.testBit (v + 1 + j) = true
            · rw [if_pos hk]
              refine Ev.congr (fun k => if_neg (by decide)) ?_
              rw [hk, if_neg (by simp)] at hh
              rw [wS (by omega)]
              exact hh
            · have hk' : t.testBit (v + 1 + j) = false := by simpa using hk
              rw [if_neg hk]
              refine Ev.congr (fun k => if_pos rfl) ?_
              rw [hk', hx] at hh
              have hp : 2 ^ (v + 1 + j) < 2 ^ 62 := Nat.pow_lt_pow_right (by decide) (by omega)
              rw [wS (by omega), shl_nat (v + 1 + j) (by omega), or_nat _ _ ht62 hp, wS (by omega)]
              refine Ev.bind (ih (v + 1) _ _ _ _ (by omega) (T.add (k := v + 1 + j) (by omega) (by omega) hb' hk') (by rw [matchTo_len]; exact ho)) ?_
              exact hh
          · refine Ev.congr (fun k => if_neg (by unfold ent; rw [if_neg hx]; decide)) ?_
            rw [show crossB w v (v + 1 + j) = false from by simpa using hx, Bool.and_false, if_neg (by simp)] at hh
            rw [wS (by omega)]
            exact hh
      exact key d 0 (by omega)
def matV (w : List Int) : List Int × Int := if isW w = true then (matchV w, 0) else ([], 1)
theorem specMat_ev (w : List Int) : Ev (fun k => spec_MatchingNumbers.f k w) (matV w) := by
  unfold spec_MatchingNumbers.f matV
  refine Ev.bind (code10_ev w [] (by simp)) ?_
  by_cases h : isW w = true
  · rw [if_pos h, if_pos h, if_pos (by simp)]
    have hw := (isW_iff w).1 h
    have hle := hw.le
    refine Ev.congr (fun k => if_pos rfl) ?_
    have e : wrap64 (wrap64 ((w.length : Int) / 4) + 1) = ((w.length / 2 / 2 + 1 : Nat) : Int) := by unfold wrap64; omega
    rw [e]
    refine Ev.congr (fun k => if_pos (by omega)) ?_
    refine Ev.congr (fun k => if_pos (by omega)) ?_
    refine Ev.bind (srows_ev w hw) ?_
    refine Ev.bind (smatch_ev w hw _ rfl (w.length / 2) 0 [] 0 0 _ (by omega) ⟨Nat.two_pow_pos _, rfl, fun j _ _ => by simp, List.nodup_nil, by simp⟩ (by rw [List.length_replicate, Int.toNat_natCast])) ?_
    rw [Int.toNat_natCast]
    exact Ev.now _
  · rw [if_neg h, if_neg h]
    exact Ev.congr (fun k => if_neg (by decide)) (Ev.now _)
theorem implMat_ev (w : List Int) (hwf : ∀ x ∈ w, (Lit.int .i64 x).wf = true) : Ev (fun k => impl_MatchingNumbers.f k w) (matV w) := by
  unfold impl_MatchingNumbers.f matV
  refine Ev.bind (isWord_ev w hwf) ?_
  by_cases h : isW w = true
  · rw [if_pos h, if_pos h]
    exact Ev.congr (fun k => by unfold impl_matchings.f; rw [if_pos h]; rfl) (Ev.now _)
  · rw [if_neg h, if_neg h]
    exact Ev.now _
theorem matV_len (w : List Int) : (matV w).1.length ≤ 1048576 := by
  unfold matV
  split
  · rename_i h
    have := ((isW_iff w).1 h).le
    unfold matchV
    rw [matchW_len, List.length_replicate]; omega
  · simp
end Go.Proofs.Ytfijnlbkflmkbaa.Pure
