/- Plain laws: what the reference says of webs: the parts' labels, and whether something is a web. -/
import Derived.Test.YtnlhhbnoccobmaaFgT
import Derived.Test.YtnlhhbnoccobmaaFx19
import Derived.Test.YtnlhhbnoccobmaaPureWeb
import Derived.Test.YtnlhhbnoccobmaaPureD
namespace Go.Proofs.Ytnlhhbnoccobmaa.Pure
open Go.RowKit Go.Proofs.Ytnlhhbnoccobmaa.F Go.Proofs.Ytnlhhbnoccobmaa.Mem Go.Proofs.Ytnlhhbnoccobmaa.Web Go.Proofs.YtnlhhbnoccobmaaW.PrintWords Go.Proofs.YtnlhhbnoccobmaaW.PrintLast
set_option linter.unusedVariables false
set_option linter.unusedSimpArgs false

theorem wrdRow (rows : List (List Int)) (a : Nat) : rd_L1 rows (a : Int) = rows.getD a [] := by unfold rd_L1; rw [Int.toNat_natCast]
def edgesW (legs : List Int) (forks : List (List Int)) (i : Nat) : List Int := if i < legs.length then [legs.getD i 0] else forks.getD (i - legs.length) []
theorem edges_f (legs : List Int) (forks : List (List Int)) (i : Nat) (hi : i < legs.length + forks.length) (hb : legs.length + forks.length ≤ 8) : spec_l06Edges.f legs forks (i : Int) = some (edgesW legs forks i) := by
  unfold spec_l06Edges.f edgesW
  by_cases h : i < legs.length
  · rw [if_pos (by omega), if_pos (by omega), if_pos h, rdN]
  · have e : wrap64 ((i : Int) - (legs.length : Int)) = ((i - legs.length : Nat) : Int) := by unfold wrap64; omega
    rw [if_neg (by omega), if_neg h, e, if_pos (by omega), if_pos (by omega), wrdRow]
theorem mem_edges {legs : List Int} {forks : List (List Int)} {e : Int} {u : Nat} (hu : u < legs.length + forks.length) : e ∈ edgesW legs forks u ↔ (e, u) ∈ inc legs forks := by
  rw [mem_inc]
  unfold edgesW
  by_cases h : u < legs.length
  · rw [if_pos h, List.mem_singleton, List.getD_eq_getElem?_getD, List.getElem?_eq_getElem h]
    constructor
    · intro g; left; rw [g]; rfl
    · rintro (g | g)
      · exact (Option.some.inj g).symm
      · omega
  · rw [if_neg h, List.getD_eq_getElem?_getD, List.getElem?_eq_getElem (by omega)]
    constructor
    · intro g; exact .inr ⟨by omega, _, rfl, g⟩
    · rintro (g | ⟨_, f, hf, g⟩)
      · have := (List.getElem?_eq_some_iff.1 g).1; omega
      · rw [← Option.some.inj hf] at g; exact g
def joinB (a b : List Int) : Bool := a.any fun x => b.contains x
theorem joined_l1 (a b : List Int) (ha : a.length < 4611686018427387904) (hb : b.length < 4611686018427387904) (i : Nat) (hi : i < a.length) (res : Bool) (hr : Ev (fun k => spec_l06Joined.l0 k a b ((i + 1 : Nat) : Int)) res) :
    ∀ d j, j + d = b.length → Ev (fun k => spec_l06Joined.l1 k a b (i : Int) (j : Int)) (if (b.drop j).contains (a.getD i 0) = true then true else res) := by
  intro d
  induction d with
  | zero =>
    intro j hj
    rw [List.drop_of_length_le (by omega)]
    refine Ev_succ ?_
    simp only [spec_l06Joined.l1]
    rw [wS (n := i) (by omega)]
    exact Ev.congr (fun k => if_neg (by omega)) (by simpa using hr)
  | succ d ih =>
    intro j hj
    rw [List.drop_eq_getElem_cons (by omega)]
    have hg : b[j]'(by omega) = b.getD j 0 := by rw [List.getD_eq_getElem?_getD, List.getElem?_eq_getElem (by omega)]; rfl
    rw [hg]
    refine Ev_succ ?_
    simp only [spec_l06Joined.l1]
    refine Ev.congr (fun k => if_pos (by omega)) (Ev.congr (fun k => if_pos (by omega)) (Ev.congr (fun k => if_pos (by omega)) (Ev.congr (fun k => if_pos (by omega)) ?_)))
    rw [rdN, rdN]
    by_cases e : a.getD i 0 = b.getD j 0
    · refine Ev.congr (fun k => if_pos e) ?_
      rw [if_pos (by rw [List.contains_cons, e]; simp)]
      exact Ev.now _
    · refine Ev.congr (fun k => if_neg e) ?_
      rw [wS (n := j) (by omega), List.contains_cons, show (a.getD i 0 == b.getD j 0) = false from by simpa using e, Bool.false_or]
      exact ih (j + 1) (by omega)
theorem joined_l0 (a b : List Int) (ha : a.length < 4611686018427387904) (hb : b.length < 4611686018427387904) : ∀ d i, i + d = a.length → Ev (fun k => spec_l06Joined.l0 k a b (i : Int)) (joinB (a.drop i) b) := by
  intro d
  induction d with
  | zero =>
    intro i hi
    rw [List.drop_of_length_le (by omega)]
    refine Ev_succ ?_
    simp only [spec_l06Joined.l0]
    exact Ev.congr (fun k => if_neg (by omega)) (Ev.now _)
  | succ d ih =>
    intro i hi
    have h := joined_l1 a b ha hb i (by omega) _ (ih (i + 1) (by omega)) b.length 0 (by omega)
    rw [List.drop_eq_getElem_cons (by omega)]
    have hg : a[i]'(by omega) = a.getD i 0 := by rw [List.getD_eq_getElem?_getD, List.getElem?_eq_getElem (by omega)]; rfl
    rw [hg]
    refine Ev_succ ?_
    simp only [spec_l06Joined.l0]
    refine Ev.congr (fun k => if_pos (by omega)) ?_
    rw [List.drop_zero] at h
    have e : joinB (a.getD i 0 :: a.drop (i + 1)) b = if b.contains (a.getD i 0) = true then true else joinB (a.drop (i + 1)) b := by
      unfold joinB; rw [List.any_cons]
      cases b.contains (a.getD i 0) <;> simp
    rw [e]; exact h
theorem joined_ev (a b : List Int) (ha : a.length < 4611686018427387904) (hb : b.length < 4611686018427387904) : Ev (fun k => spec_l06Joined.f k a b) (joinB a b) := joined_l0 a b ha hb a.length 0 (by omega)
theorem join_J {legs : List Int} {forks : List (List Int)} {u v : Nat} (hu : u < legs.length + forks.length) (hv : v < legs.length + forks.length) : joinB (edgesW legs forks u) (edgesW legs forks v) = true ↔ J (inc legs forks) u v := by
  unfold joinB J
  rw [List.any_eq_true]
  constructor
  · rintro ⟨e, h1, h2⟩
    exact ⟨e, (mem_edges hu).1 h1, (mem_edges hv).1 (List.contains_iff_mem.1 h2)⟩
  · rintro ⟨e, h1, h2⟩
    exact ⟨e, (mem_edges hu).2 h1, List.contains_iff_mem.2 ((mem_edges hv).2 h2)⟩
/-! ### the parts -/
def sumN (l : List Nat) : Nat := l.foldr (· + ·) 0
theorem sum_set : ∀ (l : List Nat) (i x : Nat), i < l.length → sumN (l.set i x) + at_ l i = sumN l + x
  | [], _, _, h => absurd h (by simp)
  | a :: l, 0, x, _ => by simp [sumN, at_]; omega
  | a :: l, i + 1, x, h => by
    have := sum_set l i x (by simpa using h)
    simp only [List.set_cons_succ, sumN, List.foldr_cons, at_, List.getD_cons_succ] at this ⊢
    omega
theorem sum_relax {out : List Nat} {i k : Nat} (hi : i < out.length) (hk : k < out.length) (hne : i ≠ k) (h : at_ out i ≠ at_ out k) : sumN (relax2 out i k) < sumN out := by
  have h1 := sum_set out i (low2 out i k) hi
  have h2 := sum_set (out.set i (low2 out i k)) k (low2 out i k) (by rw [List.length_set]; exact hk)
  rw [at_set hi, if_neg (Ne.symm hne)] at h2
  unfold relax2
  unfold low2 at h1 h2 ⊢
  omega
structure WPass (I : List (Int × Nat)) (n : Nat) (out0 out : List Nat) (more : Bool) : Prop where
  fits : Fits I n out
  no : more = false → out = out0
  yes : more = true → sumN out < sumN out0
theorem ints_set (l : List Nat) (i x : Nat) : (ints l).set i (x : Int) = ints (l.set i x) := by unfold ints; rw [List.map_set]
theorem rd_ints {l : List Nat} {i : Nat} (h : i < l.length) : rd (ints l) (i : Int) = ((at_ l i : Nat) : Int) := by rw [rdN, ints_getD l i h]; rfl
theorem mn_nat (a b : Nat) : mn (a : Int) (b : Int) = ((min a b : Nat) : Int) := by unfold mn; omega
theorem edges_len {legs : List Int} {forks : List (List Int)} (hf : ∀ f ∈ forks, f.length = 3) (i : Nat) : (edgesW legs forks i).length ≤ 3 := by
  unfold edgesW
  split
  · simp
  · rw [List.getD_eq_getElem?_getD]
    cases h : forks[i - legs.length]? with
    | none => simp
    | some f => have := hf f (List.mem_of_getElem? h); simp [this]
section
variable {legs : List Int} {forks : List (List Int)} {n : Nat} (hn : n = legs.length + forks.length) (h8 : n ≤ 8) (hf : ∀ f ∈ forks, f.length = 3)
include hn h8 hf
theorem wparts_l3 (out0 : List Nat) (Q : List Int → Prop) (i : Nat) (hi : i < n) (m0 : Bool)
    (hnext : ∀ out more, WPass (inc legs forks) n out0 out more → (m0 = true → more = true) → (more = false → ∀ k, k < i → J (inc legs forks) i k → at_ out0 i = at_ out0 k) → ∃ res, Ev (fun k => spec_l06Parts.l2 k (ints out) more ((i + 1 : Nat) : Int) legs forks) res ∧ Q res) :
    ∀ e k out more, k + e = i → WPass (inc legs forks) n out0 out more → (m0 = true → more = true) → (more = false → ∀ k', k' < k → J (inc legs forks) i k' → at_ out0 i = at_ out0 k') → ∃ res, Ev (fun q => spec_l06Parts.l3 q (ints out) more (i : Int) (k : Int) legs forks) res ∧ Q res := by
  intro e
  induction e with
  | zero =>
    intro k out more hk hp hs hc
    obtain ⟨res, hr, hq⟩ := hnext out more hp hs (fun hm k' hk' hj => hc hm k' (by omega) hj)
    refine ⟨res, ?_, hq⟩
    refine Ev_succ ?_
    simp only [spec_l06Parts.l3]
    rw [wS (n := i) (by omega)]
    exact Ev.congr (fun k => if_neg (by omega)) hr
  | succ e ih =>
    intro k out more hk hp hs hc
    have hl := hp.fits.len
    have hil : (ints out).length = out.length := ints_len out
    have step : ∀ res, Ev (fun q => if at_ out i = at_ out k then spec_l06Parts.l3 q (ints out) more (i : Int) ((k + 1 : Nat) : Int) legs forks else if joinB (edgesW legs forks i) (edgesW legs forks k) = true then spec_l06Parts.l3 q (ints (relax2 out i k)) true (i : Int) ((k + 1 : Nat) : Int) legs forks else spec_l06Parts.l3 q (ints out) more (i : Int) ((k + 1 : Nat) : Int) legs forks) res → Ev (fun q => spec_l06Parts.l3 q (ints out) more (i : Int) (k : Int) legs forks) res := by
      intro res hr
      refine Ev_succ ?_
      simp only [spec_l06Parts.l3]
      refine Ev.congr (fun q => if_pos (by omega)) (Ev.congr (fun q => if_pos (by omega)) (Ev.congr (fun q => if_pos (by omega)) (Ev.congr (fun q => if_pos (by omega)) (Ev.congr (fun q => if_pos (by omega)) ?_))))
      rw [rd_ints (by omega), rd_ints (by omega), wS (n := k) (by omega), edges_f legs forks i (by omega) (by omega), edges_f legs forks k (by omega) (by omega)]
      by_cases c : at_ out i = at_ out k
      · refine Ev.congr (fun q => if_pos (by omega)) ?_
        exact Ev.congr (fun q => (if_pos c).symm) hr
      · refine Ev.congr (fun q => if_neg (by omega)) ?_
        simp only [Option.bind_some]
        have h1 := edges_len (legs := legs) hf i
        have h2 := edges_len (legs := legs) hf k
        refine Ev.bind (joined_ev _ _ (by omega) (by omega)) ?_
        have hr2 := Ev.congr (fun q => (if_neg c).symm) hr
        rw [mn_nat, Int.toNat_natCast, Int.toNat_natCast, ints_set, ints_set]
        exact hr2
    by_cases c : at_ out i = at_ out k
    · obtain ⟨res, hr, hq⟩ := ih (k + 1) out more (by omega) hp hs (fun hm k' hk' hj => by
        by_cases g : k' = k
        · have := hp.no hm; subst this; subst g; exact c
        · exact hc hm k' (by omega) hj)
      exact ⟨res, step res (Ev.congr (fun q => if_pos c) hr), hq⟩
    · by_cases d : joinB (edgesW legs forks i) (edgesW legs forks k) = true
      · have hj := (join_J (by omega) (by omega)).1 d
        have hlt := sum_relax (out := out) (i := i) (k := k) (by omega) (by omega) (by omega) c
        obtain ⟨res, hr, hq⟩ := ih (k + 1) (relax2 out i k) true (by omega) ⟨hp.fits.relax (by omega) (by omega) hj, fun hm => absurd hm (by simp), fun _ => by
          cases hmo : more with
          | false => rw [← hp.no hmo]; exact hlt
          | true => have := hp.yes hmo; omega⟩ (fun _ => rfl) (fun hm => absurd hm (by simp))
        exact ⟨res, step res (Ev.congr (fun q => (if_neg c).trans (if_pos d)) hr), hq⟩
      · obtain ⟨res, hr, hq⟩ := ih (k + 1) out more (by omega) hp hs (fun hm k' hk' hj => by
          by_cases g : k' = k
          · subst g; exact absurd ((join_J (by omega) (by omega)).2 hj) d
          · exact hc hm k' (by omega) hj)
        exact ⟨res, step res (Ev.congr (fun q => (if_neg c).trans (if_neg d)) hr), hq⟩
theorem wparts_l2 (out0 : List Nat) (Q : List Int → Prop)
    (hnext : ∀ out more, WPass (inc legs forks) n out0 out more → (more = false → ∀ i, i < n → ∀ k, k < i → J (inc legs forks) i k → at_ out0 i = at_ out0 k) → ∃ res, Ev (fun k => spec_l06Parts.l1 k (ints out) more legs forks) res ∧ Q res) :
    ∀ e i out more, i + e = n → WPass (inc legs forks) n out0 out more → (more = false → ∀ i', i' < i → ∀ k, k < i' → J (inc legs forks) i' k → at_ out0 i' = at_ out0 k) → ∃ res, Ev (fun q => spec_l06Parts.l2 q (ints out) more (i : Int) legs forks) res ∧ Q res := by
  intro e
  induction e with
  | zero =>
    intro i out more hi hp hc
    have hl := hp.fits.len
    have hil : (ints out).length = out.length := ints_len out
    obtain ⟨res, hr, hq⟩ := hnext out more hp (fun hm i' hi' => hc hm i' (by omega))
    refine ⟨res, ?_, hq⟩
    refine Ev_succ ?_
    simp only [spec_l06Parts.l2]
    exact Ev.congr (fun k => if_neg (by omega)) hr
  | succ e ih =>
    intro i out more hi hp hc
    have hl := hp.fits.len
    have hil : (ints out).length = out.length := ints_len out
    obtain ⟨res, hr, hq⟩ := wparts_l3 hn h8 hf out0 Q i (by omega) more (fun out' more' hp' hs' hc' => ih (i + 1) out' more' (by omega) hp' (fun hm i' hi' => by
      by_cases g : i' = i
      · subst g; exact hc' hm
      · refine hc ?_ i' (by omega)
        cases hmo : more with
        | false => rfl
        | true => rw [hs' hmo] at hm; exact absurd hm (by simp))) i 0 out more (by omega) hp (fun hm => hm) (fun _ k' hk' => absurd hk' (Nat.not_lt_zero _))
    refine ⟨res, ?_, hq⟩
    refine Ev_succ ?_
    simp only [spec_l06Parts.l2]
    exact Ev.congr (fun k => if_pos (by omega)) hr
theorem wparts_l1 : ∀ m (out : List Nat), sumN out ≤ m → Fits (inc legs forks) n out → Ev (fun k => spec_l06Parts.l1 k (ints out) true legs forks) (ints ((List.range n).map (lbl (inc legs forks)))) := by
  have fin : ∀ out out' more', Fits (inc legs forks) n out → WPass (inc legs forks) n out out' more' → (more' = false → ∀ i, i < n → ∀ k, k < i → J (inc legs forks) i k → at_ out i = at_ out k) → more' = false → ∃ res, Ev (fun k => spec_l06Parts.l1 k (ints out') more' legs forks) res ∧ res = ints ((List.range n).map (lbl (inc legs forks))) := by
    intro out out' more' hF hp' hcl hmo
    have e := hp'.no hmo
    subst e
    refine ⟨ints out', ?_, ?_⟩
    · refine Ev_succ ?_
      simp only [spec_l06Parts.l1]
      exact Ev.congr (fun k => if_neg (by rw [hmo]; simp)) (Ev.now _)
    · rw [← fixed_lbl (fun e u h => by rw [hn]; exact inc_lt h) hF (fun u v hj => ?_)]
      obtain ⟨e, h1, h2⟩ := hj
      have hu : u < n := by rw [hn]; exact inc_lt h1
      have hv : v < n := by rw [hn]; exact inc_lt h2
      rcases Nat.lt_trichotomy u v with g | g | g
      · exact (hcl hmo v hv u g ⟨e, h2, h1⟩).symm
      · rw [g]
      · exact hcl hmo u hu v g ⟨e, h1, h2⟩
  intro m
  induction m with
  | zero =>
    intro out hm hF
    obtain ⟨res, hr, hq⟩ := wparts_l2 hn h8 hf out (fun res => res = ints ((List.range n).map (lbl (inc legs forks)))) (fun out' more' hp' hcl => by
      cases hmo : more' with
      | true => have := hp'.yes hmo; omega
      | false => rw [← hmo]; exact fin out out' more' hF hp' hcl hmo) n 0 out false (by omega) ⟨hF, fun _ => rfl, fun h => absurd h (by simp)⟩ (fun _ i' hi' => absurd hi' (Nat.not_lt_zero _))
    subst hq
    refine Ev_succ ?_
    simp only [spec_l06Parts.l1]
    exact Ev.congr (fun k => if_pos trivial) hr
  | succ m ih =>
    intro out hm hF
    obtain ⟨res, hr, hq⟩ := wparts_l2 hn h8 hf out (fun res => res = ints ((List.range n).map (lbl (inc legs forks)))) (fun out' more' hp' hcl => by
      cases hmo : more' with
      | true => have := hp'.yes hmo; exact ⟨_, ih out' (by omega) hp'.fits, rfl⟩
      | false => rw [← hmo]; exact fin out out' more' hF hp' hcl hmo) n 0 out false (by omega) ⟨hF, fun _ => rfl, fun h => absurd h (by simp)⟩ (fun _ i' hi' => absurd hi' (Nat.not_lt_zero _))
    subst hq
    refine Ev_succ ?_
    simp only [spec_l06Parts.l1]
    exact Ev.congr (fun k => if_pos trivial) hr
theorem wparts_ev : Ev (fun k => spec_l06Parts.f k legs forks) (ints ((List.range n).map (lbl (inc legs forks)))) := by
  have key : ∀ d i, i + d = forks.length + legs.length → Ev (fun k => spec_l06Parts.l0 k (legs.length : Int) (ints (List.range i)) (i : Int) legs forks) (ints ((List.range n).map (lbl (inc legs forks)))) := by
    intro d
    induction d with
    | zero =>
      intro i hi
      obtain rfl : i = n := by omega
      have e : wrap64 ((legs.length : Int) + (forks.length : Int)) = (i : Int) := by unfold wrap64; omega
      refine Ev_succ ?_
      simp only [spec_l06Parts.l0]
      rw [e]
      refine Ev.congr (fun k => if_neg (by omega)) ?_
      exact wparts_l1 hn h8 hf _ _ (Nat.le_refl _) (range_fits _ _)
    | succ d ih =>
      intro i hi
      have e : wrap64 ((legs.length : Int) + (forks.length : Int)) = (n : Int) := by unfold wrap64; omega
      refine Ev_succ ?_
      simp only [spec_l06Parts.l0]
      rw [e]
      refine Ev.congr (fun k => if_pos (by omega)) (Ev.congr (fun k => if_pos (by rw [ints_len, List.length_range]; omega)) ?_)
      have := ih (i + 1) (by omega)
      rw [List.range_succ, ints_app] at this
      rw [wS (n := i) (by omega)]
      exact this
  exact key (forks.length + legs.length) 0 (by omega)
end
/-! ### each edge twice -/
theorem inc_fst (legs : List Int) (forks : List (List Int)) : (inc legs forks).map Prod.fst = legs ++ forks.flatten := by
  unfold inc
  rw [List.map_append, List.map_flatMap]
  congr 1
  · simp [List.zipIdx_map_fst]
  · have : ∀ (F : List (List Int)) (s : Nat), (F.zipIdx s).flatMap (fun p => (p.1.map fun e => (e, p.2)).map Prod.fst) = F.flatten := by
      intro F
      induction F with
      | nil => intro s; rfl
      | cons f F ih => intro s; rw [List.zipIdx_cons, List.flatMap_cons, ih]; simp [Function.comp_def]
    exact this forks legs.length
theorem ends_count (legs : List Int) (forks : List (List Int)) (e : Int) : (ends (inc legs forks) e).length = (legs ++ forks.flatten).count e := by
  unfold ends
  rw [List.length_map, ← inc_fst, List.count, List.countP_map, ← List.countP_eq_length_filter]
  rfl
def twiceL (all : List Int) : Bool := all.all fun x => decide (0 ≤ x ∧ x ≤ 1000) && all.count x == 2
theorem twice_all (legs : List Int) (forks : List (List Int)) : twiceB legs forks = twiceL (legs ++ forks.flatten) := by
  unfold twiceB twiceL
  rw [← inc_fst, List.all_map]
  congr 1
  funext p
  simp only [Function.comp, ends_count, inc_fst]
theorem etwice_l2 (all : List Int) (ha : all.length ≤ 1000) (i : Nat) (hi : i < all.length) (res : Bool) (hr : Ev (fun k => spec_l06Twice.l1 k all ((i + 1 : Nat) : Int)) res) :
    ∀ d j c, j + d = all.length → c ≤ j → Ev (fun k => spec_l06Twice.l2 k all (i : Int) (c : Int) (j : Int)) (if c + (all.drop j).count (all.getD i 0) = 2 ∧ 0 ≤ all.getD i 0 ∧ all.getD i 0 ≤ 1000 then res else false) := by
  intro d
  induction d with
  | zero =>
    intro j c hj hc
    rw [List.drop_of_length_le (by omega), List.count_nil, Nat.add_zero]
    refine Ev_succ ?_
    simp only [spec_l06Twice.l2]
    refine Ev.congr (fun k => if_neg (by omega)) ?_
    by_cases h2 : c = 2
    · refine Ev.congr (fun k => if_pos (by omega)) (Ev.congr (fun k => if_pos (by omega)) (Ev.congr (fun k => if_pos (by omega)) ?_))
      rw [rdN, spec_in_f, wS (n := i) (by omega)]
      simp only [Option.bind_some]
      by_cases h3 : 0 ≤ all.getD i 0 ∧ all.getD i 0 ≤ 1000
      · rw [if_pos ⟨h2, h3⟩]
        exact Ev.congr (fun k => if_pos (decide_eq_true h3)) hr
      · rw [if_neg (fun h => h3 h.2)]
        exact Ev.congr (fun k => if_neg (by simpa using h3)) (Ev.now _)
    · rw [if_neg (fun h => h2 h.1)]
      exact Ev.congr (fun k => if_neg (by omega)) (Ev.now _)
  | succ d ih =>
    intro j c hj hc
    rw [List.drop_eq_getElem_cons (by omega), List.count_cons]
    have hg : all[j]'(by omega) = all.getD j 0 := by rw [List.getD_eq_getElem?_getD, List.getElem?_eq_getElem (by omega)]; rfl
    rw [hg]
    refine Ev_succ ?_
    simp only [spec_l06Twice.l2]
    refine Ev.congr (fun k => if_pos (by omega)) (Ev.congr (fun k => if_pos (by omega)) (Ev.congr (fun k => if_pos (by omega)) (Ev.congr (fun k => if_pos (by omega)) ?_)))
    rw [rdN, rdN, wS (n := j) (by omega), wS (n := c) (by omega)]
    by_cases e : all.getD j 0 = all.getD i 0
    · refine Ev.congr (fun k => if_pos e) ?_
      have := ih (j + 1) (c + 1) (by omega) (by omega)
      rw [show (all.getD j 0 == all.getD i 0) = true from by simpa using e, if_pos rfl, show c + (List.count (all.getD i 0) (all.drop (j + 1)) + 1) = c + 1 + List.count (all.getD i 0) (all.drop (j + 1)) from by omega]
      exact this
    · refine Ev.congr (fun k => if_neg e) ?_
      have := ih (j + 1) c (by omega) (by omega)
      rw [show (all.getD j 0 == all.getD i 0) = false from by simpa using e, if_neg (show ¬ (false = true) from by simp), Nat.add_zero]
      exact this
theorem etwice_l1 (all : List Int) (ha : all.length ≤ 1000) : ∀ d i, i + d = all.length → Ev (fun k => spec_l06Twice.l1 k all (i : Int)) ((all.drop i).all fun x => decide (0 ≤ x ∧ x ≤ 1000) && all.count x == 2) := by
  intro d
  induction d with
  | zero =>
    intro i hi
    rw [List.drop_of_length_le (by omega)]
    refine Ev_succ ?_
    simp only [spec_l06Twice.l1]
    exact Ev.congr (fun k => if_neg (by omega)) (Ev.now _)
  | succ d ih =>
    intro i hi
    have h := etwice_l2 all ha i (by omega) _ (ih (i + 1) (by omega)) all.length 0 0 (by omega) (by omega)
    rw [List.drop_zero, Nat.zero_add] at h
    rw [List.drop_eq_getElem_cons (by omega), List.all_cons]
    have hg : all[i]'(by omega) = all.getD i 0 := by rw [List.getD_eq_getElem?_getD, List.getElem?_eq_getElem (by omega)]; rfl
    rw [hg]
    refine Ev_succ ?_
    simp only [spec_l06Twice.l1]
    refine Ev.congr (fun k => if_pos (by omega)) ?_
    have e : ((decide (0 ≤ all.getD i 0 ∧ all.getD i 0 ≤ 1000) && List.count (all.getD i 0) all == 2) && (all.drop (i + 1)).all fun x => decide (0 ≤ x ∧ x ≤ 1000) && List.count x all == 2) = if List.count (all.getD i 0) all = 2 ∧ 0 ≤ all.getD i 0 ∧ all.getD i 0 ≤ 1000 then (all.drop (i + 1)).all (fun x => decide (0 ≤ x ∧ x ≤ 1000) && List.count x all == 2) else false := by
      by_cases h1 : List.count (all.getD i 0) all = 2 <;> by_cases h2 : 0 ≤ all.getD i 0 ∧ all.getD i 0 ≤ 1000
      · rw [if_pos ⟨h1, h2⟩, decide_eq_true h2, h1]; rfl
      · rw [if_neg (fun h => h2 h.2), decide_eq_false h2]; rfl
      · rw [if_neg (fun h => h1 h.1), show (List.count (all.getD i 0) all == 2) = false from by simpa using h1]; simp
      · rw [if_neg (fun h => h1 h.1), decide_eq_false h2]; rfl
    rw [e]; exact h
theorem etwice_ev (legs : List Int) (forks : List (List Int)) (h8 : legs.length + forks.length ≤ 8) : Ev (fun k => spec_l06Twice.f k legs forks) ((forks.all fun f => f.length == 3) && twiceB legs forks) := by
  unfold spec_l06Twice.f
  rw [own_f legs (by omega)]
  simp only [Option.bind_some]
  have key : ∀ d i, i + d = forks.length → (∀ f ∈ forks.take i, f.length = 3) → Ev (fun k => spec_l06Twice.l0 k (legs ++ (forks.take i).flatten) (i : Int) legs forks) (((forks.drop i).all fun f => f.length == 3) && twiceB legs forks) := by
    intro d
    induction d with
    | zero =>
      intro i hi h3
      rw [List.take_of_length_le (by omega)] at h3 ⊢
      rw [List.drop_of_length_le (by omega), List.all_nil, Bool.true_and, twice_all]
      refine Ev_succ ?_
      simp only [spec_l06Twice.l0]
      refine Ev.congr (fun k => if_neg (by omega)) ?_
      have hlen : ∀ F : List (List Int), (∀ f ∈ F, f.length = 3) → F.flatten.length = 3 * F.length := by
        intro F
        induction F with
        | nil => intro _; rfl
        | cons f F ih => intro h; rw [List.flatten_cons, List.length_append, ih (fun g hg => h g (List.mem_cons_of_mem _ hg)), h f List.mem_cons_self, List.length_cons]; omega
      have := hlen forks h3
      exact etwice_l1 (legs ++ forks.flatten) (by rw [List.length_append]; omega) (legs ++ forks.flatten).length 0 (by omega)
    | succ d ih =>
      intro i hi h3
      rw [List.drop_eq_getElem_cons (by omega), List.all_cons]
      have hg : forks[i]'(by omega) = forks.getD i [] := by rw [List.getD_eq_getElem?_getD, List.getElem?_eq_getElem (by omega)]; rfl
      rw [hg]
      refine Ev_succ ?_
      simp only [spec_l06Twice.l0]
      refine Ev.congr (fun k => if_pos (by omega)) (Ev.congr (fun k => if_pos (by omega)) ?_)
      rw [wrdRow, wS (n := i) (by omega)]
      by_cases e : (forks.getD i []).length = 3
      · refine Ev.congr (fun k => if_pos (by omega)) ?_
        have hlen : ∀ F : List (List Int), (∀ f ∈ F, f.length = 3) → F.flatten.length = 3 * F.length := by
          intro F
          induction F with
          | nil => intro _; rfl
          | cons f F ih => intro h; rw [List.flatten_cons, List.length_append, ih (fun g hg => h g (List.mem_cons_of_mem _ hg)), h f List.mem_cons_self, List.length_cons]; omega
        have hl := hlen _ h3
        rw [List.length_take] at hl
        refine Ev.congr (fun k => if_pos (by rw [List.length_append]; omega)) ?_
        have ht : forks.take (i + 1) = forks.take i ++ [forks.getD i []] := by rw [List.take_succ_eq_append_getElem (by omega), hg]
        have := ih (i + 1) (by omega) (fun f hf => by
          rw [ht] at hf
          rcases List.mem_append.1 hf with q | q
          · exact h3 f q
          · rw [List.mem_singleton] at q; rw [q]; exact e)
        rw [ht, List.flatten_append, ← List.append_assoc] at this
        rw [show ((forks.getD i []).length == 3) = true from by rw [e]; rfl, Bool.true_and]
        simpa using this
      · refine Ev.congr (fun k => if_neg (by omega)) ?_
        rw [show ((forks.getD i []).length == 3) = false from by simpa using e]
        exact Ev.now _
  have := key forks.length 0 (by omega) (by simp)
  simpa using this
theorem specIs_ev (legs : List Int) (forks : List (List Int)) (h1 : legs.length ≤ 17592186044416) (h2 : forks.length ≤ 17592186044416) : Ev (fun k => spec_l06Is.f k legs forks) (isWebB legs forks) := by
  unfold spec_l06Is.f isWebB
  have e : wrap64 ((legs.length : Int) + (forks.length : Int)) = ((legs.length + forks.length : Nat) : Int) := by unfold wrap64; omega
  rw [e]
  by_cases h8 : legs.length + forks.length ≤ 8
  · rw [decide_eq_true h8, Bool.true_and]
    refine Ev.congr (fun k => if_neg (by omega)) (Ev.bind (etwice_ev legs forks h8) ?_)
    cases ht : ((forks.all fun f => f.length == 3) && twiceB legs forks) with
    | false =>
      rw [Bool.false_and]
      refine Ev_succ ?_
      simp only [spec_l06Is.j0, Bool.not_false, if_true]
      exact Ev.now _
    | true =>
      rw [Bool.true_and]
      have hf : ∀ f ∈ forks, f.length = 3 := fun f hf => by
        have := List.all_eq_true.1 (Bool.and_eq_true_iff.1 ht).1 f hf
        exact eq_of_beq this
      refine Ev_succ ?_
      simp only [spec_l06Is.j0]
      refine Ev.congr (fun k => if_neg (by simp)) (Ev.bind (wparts_ev rfl h8 hf) ?_)
      obtain ⟨n, hn⟩ : ∃ n, n = legs.length + forks.length := ⟨_, rfl⟩
      unfold rootedB
      rw [← hn]
      have key : ∀ d v, v + d = n → Ev (fun k => spec_l06Is.l0 k (ints ((List.range n).map (lbl (inc legs forks)))) (v : Int) legs forks) (((List.range n).drop v).all fun v => decide (lbl (inc legs forks) v < legs.length)) := by
        have hil : (ints ((List.range n).map (lbl (inc legs forks)))).length = n := by rw [ints_len]; simp
        intro d
        induction d with
        | zero =>
          intro v hv
          rw [List.drop_of_length_le (by rw [List.length_range]; omega)]
          refine Ev_succ ?_
          simp only [spec_l06Is.l0]
          exact Ev.congr (fun k => if_neg (by omega)) (Ev.now _)
        | succ d ih =>
          intro v hv
          rw [List.drop_eq_getElem_cons (by rw [List.length_range]; omega), List.all_cons, List.getElem_range]
          refine Ev_succ ?_
          simp only [spec_l06Is.l0]
          refine Ev.congr (fun k => if_pos (by omega)) (Ev.congr (fun k => if_pos (by omega)) ?_)
          have ha : at_ ((List.range n).map (lbl (inc legs forks))) v = lbl (inc legs forks) v := by
            unfold at_; rw [List.getD_eq_getElem?_getD, List.getElem?_map, List.getElem?_range (by omega)]; rfl
          rw [rd_ints (by simp; omega), ha, wS (n := v) (by omega)]
          by_cases c : lbl (inc legs forks) v < legs.length
          · rw [decide_eq_true c, Bool.true_and]
            exact Ev.congr (fun k => if_neg (by omega)) (ih (v + 1) (by omega))
          · rw [decide_eq_false c, Bool.false_and]
            exact Ev.congr (fun k => if_pos (by omega)) (Ev.now _)
      exact key n 0 (by omega)
  · rw [decide_eq_false h8]
    refine Ev.congr (fun k => if_pos (by omega)) ?_
    refine Ev_succ ?_
    simp only [spec_l06Is.j0, if_true, Bool.false_and]
    exact Ev.now _
end Go.Proofs.Ytnlhhbnoccobmaa.Pure
