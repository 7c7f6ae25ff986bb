/- Plain laws: the reference's parts of rows are as many as the labels that are their own. -/
import Derived.Test.YtnlhhbnoccobmaaFx172
import Derived.Test.YtnlhhbnoccobmaaPureFalses
import Derived.Test.YtnlhhbnoccobmaaPureChrom
import Derived.Test.YtnlhhbnoccobmaaPureD
namespace Go.Proofs.Ytnlhhbnoccobmaa.Pure
open Go.RowKit Go.Proofs.Ytnlhhbnoccobmaa.F Go.Proofs.Ytnlhhbnoccobmaa.Chrom Go.Proofs.YtnlhhbnoccobmaaW.PrintWords Go.Proofs.YtnlhhbnoccobmaaW.PrintLast
set_option linter.unusedVariables false
set_option linter.unusedSimpArgs false

/-- What is known of rows and of labels: n rows of n numbers; who stands beside whom has the same label, and whatever is kept by neighbours is kept by equal labels. -/
structure Lbl (n : Nat) (rows : List (List Int)) (r : Nat → Nat) : Prop where
  n6 : n ≤ 6
  len : rows.length = n
  row : ∀ a, a < n → (rows.getD a []).length = n
  lab : Lab r
  one : ∀ a b, a < n → b < n → (rows.getD a []).getD b 0 = 1 → r a = r b
  two : ∀ S : Nat → Bool, (∀ a b, a < n → b < n → (rows.getD a []).getD b 0 = 1 → S a = true → S b = true) → ∀ u v, u < n → v < n → r u = r v → S u = true → S v = true
def bAt (l : List Bool) (i : Nat) : Bool := l.getD i false
theorem bAt_set {l : List Bool} {i j : Nat} {v : Bool} (hi : i < l.length) : bAt (l.set i v) j = if j = i then v else bAt l j := by
  unfold bAt
  rw [List.getD_eq_getElem?_getD, List.getElem?_set]
  by_cases e : i = j
  · rw [if_pos e, if_pos (by omega), if_pos e.symm]; rfl
  · rw [if_neg e, if_neg (Ne.symm e), ← List.getD_eq_getElem?_getD]
/-- One pass over all pairs: what was there stays, all of it has the label's class, and more tells whether something came. -/
structure Pass (n : Nat) (r : Nat → Nat) (i : Nat) (own0 own : List Bool) (more : Bool) : Prop where
  len : own.length = n
  sub : ∀ v, bAt own0 v = true → bAt own v = true
  cls : ∀ v, v < n → bAt own v = true → r v = r i
  no : more = false → own = own0
  yes : more = true → falses own < falses own0
theorem rdRow (rows : List (List Int)) (a : Nat) : rd_L1 rows (a : Int) = rows.getD a [] := by unfold rd_L1; rw [Int.toNat_natCast]
theorem rdB (l : List Bool) (a : Nat) : rdOf false l (a : Int) = bAt l a := by unfold rdOf bAt; rw [Int.toNat_natCast]
theorem parts_l3 {n : Nat} {rows : List (List Int)} {r : Nat → Nat} (h : Lbl n rows r) (i : Nat) (hi : i < n) (met : List Bool) (out : List (List Int)) (own0 : List Bool) (h0 : own0.length = n) (Q : List (List Int) → Prop) (a : Nat) (ha : a < n) (m0 : Bool)
    (hnext : ∀ own more, Pass n r i own0 own more → (m0 = true → more = true) → (more = false → bAt own0 a = true → ∀ b, b < n → (rows.getD a []).getD b 0 = 1 → bAt own0 b = true) → ∃ res, Ev (fun k => spec_l02Parts.l2 k rows met out (i : Int) own more ((a + 1 : Nat) : Int)) res ∧ Q res) :
    ∀ e b own more, b + e = n → Pass n r i own0 own more → (m0 = true → more = true) → (more = false → bAt own0 a = true → ∀ b', b' < b → (rows.getD a []).getD b' 0 = 1 → bAt own0 b' = true) → ∃ res, Ev (fun k => spec_l02Parts.l3 k rows met out (i : Int) own more (a : Int) (b : Int)) res ∧ Q res := by
  have hn6 := h.n6
  have hl := h.len
  intro e
  induction e with
  | zero =>
    intro b own more hb hp hs hc
    obtain ⟨res, hr, hq⟩ := hnext own more hp hs (fun hm ha0 b' hb' he => hc hm ha0 b' (by omega) he)
    refine ⟨res, ?_, hq⟩
    refine Ev_succ ?_
    simp only [spec_l02Parts.l3]
    refine Ev.congr (fun k => if_neg (by omega)) ?_
    refine Ev_succ ?_
    simp only [spec_l02Parts.j4]
    rw [wS (n := a) (by omega)]
    exact Ev.congr (fun k => if_neg (by simp)) hr
  | succ e ih =>
    intro b own more hb hp hs hc
    have hol := hp.len
    have hrl := h.row a ha
    cases hoa : bAt own a with
    | false =>
      -- the row's chord is not in: nothing to do
      obtain ⟨res, hr, hq⟩ := hnext own more hp hs (fun hm ha0 => by rw [hp.no hm] at hoa; rw [hoa] at ha0; exact absurd ha0 (by simp))
      refine ⟨res, ?_, hq⟩
      refine Ev_succ ?_
      simp only [spec_l02Parts.l3]
      refine Ev.congr (fun k => if_pos (by omega)) (Ev.congr (fun k => if_pos (by omega)) (Ev.congr (fun k => if_pos (by omega)) ?_))
      rw [rdB, hoa]
      refine Ev_succ ?_
      simp only [spec_l02Parts.j4]
      rw [wS (n := a) (by omega)]
      exact Ev.congr (fun k => if_neg (by simp)) hr
    | true =>
      have step : ∀ res, Ev (fun k => if (rows.getD a []).getD b 0 = 1 then (if bAt own b = true then spec_l02Parts.l3 k rows met out (i : Int) own more (a : Int) ((b + 1 : Nat) : Int) else spec_l02Parts.l3 k rows met out (i : Int) (own.set b true) true (a : Int) ((b + 1 : Nat) : Int)) else spec_l02Parts.l3 k rows met out (i : Int) own more (a : Int) ((b + 1 : Nat) : Int)) res → Ev (fun k => spec_l02Parts.l3 k rows met out (i : Int) own more (a : Int) (b : Int)) res := by
        intro res hr
        refine Ev_succ ?_
        simp only [spec_l02Parts.l3]
        refine Ev.congr (fun k => if_pos (by omega)) (Ev.congr (fun k => if_pos (by omega)) (Ev.congr (fun k => if_pos (by omega)) ?_))
        rw [rdB, hoa]
        refine Ev_succ ?_
        simp only [spec_l02Parts.j4]
        refine Ev.congr (fun k => if_pos trivial) (Ev.congr (fun k => if_pos (by omega)) (Ev.congr (fun k => if_pos (by omega)) (Ev.congr (fun k => if_pos (by omega)) ?_)))
        rw [rdRow, rdN, rdB, Int.toNat_natCast, wS (n := b) (by omega)]
        refine Ev.congr (fun k => if_pos (by omega)) ?_
        by_cases c : (rows.getD a []).getD b 0 = 1
        · refine Ev.congr (fun k => if_pos c) (Ev.congr (fun k => if_pos (by omega)) ?_)
          exact Ev.congr (fun k => (if_pos c).symm) hr
        · refine Ev.congr (fun k => if_neg c) ?_
          exact Ev.congr (fun k => (if_neg c).symm) hr
      by_cases c : (rows.getD a []).getD b 0 = 1
      · cases hob : bAt own b with
        | true =>
          obtain ⟨res, hr, hq⟩ := ih (b + 1) own more (by omega) hp hs (fun hm ha0 b' hb' he => by
            by_cases g : b' = b
            · rw [g, ← hp.no hm]; exact hob
            · exact hc hm ha0 b' (by omega) he)
          refine ⟨res, step res (Ev.congr (fun k => (if_pos c).trans (if_pos hob)) hr), hq⟩
        | false =>
          have hlt := falses_set_lt (l := own) (i := b) (by omega) hob
          obtain ⟨res, hr, hq⟩ := ih (b + 1) (own.set b true) true (by omega) ⟨by rw [List.length_set]; exact hol, fun v hv => by
            rw [bAt_set (by omega)]
            split
            · rfl
            · exact hp.sub v hv, fun v hv hv2 => by
            rw [bAt_set (by omega)] at hv2
            by_cases g : v = b
            · rw [g, ← h.one a b ha (by omega) c]; exact hp.cls a ha hoa
            · rw [if_neg g] at hv2; exact hp.cls v hv hv2, fun hm => absurd hm (by simp), fun _ => by
            cases hmo : more with
            | false => rw [← hp.no hmo]; exact hlt
            | true => have := hp.yes hmo; omega⟩ (fun _ => rfl) (fun hm => absurd hm (by simp))
          refine ⟨res, step res (Ev.congr (fun k => (if_pos c).trans (if_neg (by rw [hob]; simp))) hr), hq⟩
      · obtain ⟨res, hr, hq⟩ := ih (b + 1) own more (by omega) hp hs (fun hm ha0 b' hb' he => by
          by_cases g : b' = b
          · rw [g] at he; exact absurd he c
          · exact hc hm ha0 b' (by omega) he)
        exact ⟨res, step res (Ev.congr (fun k => if_neg c) hr), hq⟩
theorem parts_l2 {n : Nat} {rows : List (List Int)} {r : Nat → Nat} (h : Lbl n rows r) (i : Nat) (hi : i < n) (met : List Bool) (out : List (List Int)) (own0 : List Bool) (h0 : own0.length = n) (Q : List (List Int) → Prop)
    (hnext : ∀ own more, Pass n r i own0 own more → (more = false → ∀ a, a < n → bAt own0 a = true → ∀ b, b < n → (rows.getD a []).getD b 0 = 1 → bAt own0 b = true) → ∃ res, Ev (fun k => spec_l02Parts.l1 k rows met out (i : Int) own more) res ∧ Q res) :
    ∀ e a own more, a + e = n → Pass n r i own0 own more → (more = false → ∀ a', a' < a → bAt own0 a' = true → ∀ b, b < n → (rows.getD a' []).getD b 0 = 1 → bAt own0 b = true) → ∃ res, Ev (fun k => spec_l02Parts.l2 k rows met out (i : Int) own more (a : Int)) res ∧ Q res := by
  have hn6 := h.n6
  have hl := h.len
  intro e
  induction e with
  | zero =>
    intro a own more ha hp hc
    obtain ⟨res, hr, hq⟩ := hnext own more hp (fun hm a' ha' => hc hm a' (by omega))
    refine ⟨res, ?_, hq⟩
    refine Ev_succ ?_
    simp only [spec_l02Parts.l2]
    exact Ev.congr (fun k => if_neg (by omega)) hr
  | succ e ih =>
    intro a own more ha hp hc
    obtain ⟨res, hr, hq⟩ := parts_l3 h i hi met out own0 h0 Q a (by omega) more (fun own' more' hp' hs' hc' => ih (a + 1) own' more' (by omega) hp' (fun hm a' ha' h1 => by
      by_cases g : a' = a
      · rw [g] at h1 ⊢; exact hc' hm h1
      · refine hc ?_ a' (by omega) h1
        cases hmo : more with
        | false => rfl
        | true => rw [hs' hmo] at hm; exact absurd hm (by simp))) n 0 own more (by omega) hp (fun hm => hm) (fun _ _ b' hb' => absurd hb' (Nat.not_lt_zero _))
    refine ⟨res, ?_, hq⟩
    refine Ev_succ ?_
    simp only [spec_l02Parts.l2]
    exact Ev.congr (fun k => if_pos (by omega)) hr
theorem parts_l1 {n : Nat} {rows : List (List Int)} {r : Nat → Nat} (h : Lbl n rows r) (i : Nat) (hi : i < n) (met : List Bool) (out : List (List Int)) (Q : List (List Int) → Prop)
    (hnext : ∀ own : List Bool, own.length = n → (∀ v, v < n → (bAt own v = true ↔ r v = r i)) → ∃ res, Ev (fun k => spec_l02Parts.l4 k rows met out (i : Int) own [] 0) res ∧ Q res) :
    ∀ m (own : List Bool), falses own ≤ m → own.length = n → bAt own i = true → (∀ v, v < n → bAt own v = true → r v = r i) → ∃ res, Ev (fun k => spec_l02Parts.l1 k rows met out (i : Int) own true) res ∧ Q res := by
  intro m
  induction m with
  | zero =>
    intro own hm hl hoi hc
    obtain ⟨res, hr, hq⟩ := parts_l2 h i hi met out own hl Q (fun own' more' hp' hcl' => by
      cases hmo : more' with
      | true => have := hp'.yes hmo; omega
      | false =>
        have e := hp'.no hmo
        subst e
        obtain ⟨res, hr, hq⟩ := hnext own' hl (fun v hv => ⟨hc v hv, fun e => h.two (fun v => bAt own' v) (fun a b ha hb hab hoa => hcl' hmo a ha hoa b hb hab) i v hi hv e.symm hoi⟩)
        refine ⟨res, ?_, hq⟩
        refine Ev_succ ?_
        simp only [spec_l02Parts.l1]
        exact Ev.congr (fun k => if_neg (by simp)) hr) n 0 own false (by omega) ⟨hl, fun _ hv => hv, hc, fun _ => rfl, fun hm => absurd hm (by simp)⟩ (fun _ a' ha' => absurd ha' (Nat.not_lt_zero _))
    refine ⟨res, ?_, hq⟩
    refine Ev_succ ?_
    simp only [spec_l02Parts.l1]
    exact Ev.congr (fun k => if_pos trivial) hr
  | succ m ih =>
    intro own hm hl hoi hc
    obtain ⟨res, hr, hq⟩ := parts_l2 h i hi met out own hl Q (fun own' more' hp' hcl' => by
      cases hmo : more' with
      | true =>
        have := hp'.yes hmo
        exact ih own' (by omega) hp'.len (hp'.sub i hoi) hp'.cls
      | false =>
        have e := hp'.no hmo
        subst e
        obtain ⟨res, hr, hq⟩ := hnext own' hl (fun v hv => ⟨hc v hv, fun e => h.two (fun v => bAt own' v) (fun a b ha hb hab hoa => hcl' hmo a ha hoa b hb hab) i v hi hv e.symm hoi⟩)
        refine ⟨res, ?_, hq⟩
        refine Ev_succ ?_
        simp only [spec_l02Parts.l1]
        exact Ev.congr (fun k => if_neg (by simp)) hr) n 0 own false (by omega) ⟨hl, fun _ hv => hv, hc, fun _ => rfl, fun hm => absurd hm (by simp)⟩ (fun _ a' ha' => absurd ha' (Nat.not_lt_zero _))
    refine ⟨res, ?_, hq⟩
    refine Ev_succ ?_
    simp only [spec_l02Parts.l1]
    exact Ev.congr (fun k => if_pos trivial) hr
theorem parts_l4 {n : Nat} {rows : List (List Int)} (hn6 : n ≤ 6) (hl : rows.length = n) (i : Nat) (own : List Bool) (ho : own.length = n) (met0 : List Bool) (out : List (List Int)) (hol : out.length ≤ 100) (Q : List (List Int) → Prop)
    (hnext : ∀ (met : List Bool) (part : List Int), met.length = n → (∀ v, v < n → (bAt met v = true ↔ bAt met0 v = true ∨ bAt own v = true)) → ∃ res, Ev (fun k => spec_l02Parts.l0 k rows met (out ++ [part]) (wrap64 ((i : Int) + 1))) res ∧ Q res) :
    ∀ e a (met : List Bool) (part : List Int), a + e = n → met.length = n → part.length ≤ a → (∀ v, v < n → (bAt met v = true ↔ bAt met0 v = true ∨ (v < a ∧ bAt own v = true))) → ∃ res, Ev (fun k => spec_l02Parts.l4 k rows met out (i : Int) own part (a : Int)) res ∧ Q res := by
  intro e
  induction e with
  | zero =>
    intro a met part ha hm hp hv
    obtain ⟨res, hr, hq⟩ := hnext met part hm (fun v hvn => by rw [hv v hvn]; constructor
                                                               · rintro (g | g); exact .inl g; exact .inr g.2
                                                               · rintro (g | g); exact .inl g; exact .inr ⟨by omega, g⟩)
    refine ⟨res, ?_, hq⟩
    refine Ev_succ ?_
    simp only [spec_l02Parts.l4]
    exact Ev.congr (fun k => if_neg (by omega)) (Ev.congr (fun k => if_pos (by omega)) hr)
  | succ e ih =>
    intro a met part ha hm hp hv
    cases hoa : bAt own a with
    | true =>
      obtain ⟨res, hr, hq⟩ := ih (a + 1) (met.set a true) (part ++ [(a : Int)]) (by omega) (by rw [List.length_set]; exact hm) (by rw [List.length_append, List.length_singleton]; omega) (fun v hvn => by
        rw [bAt_set (by omega)]
        by_cases g : v = a
        · rw [if_pos g, g]; simp [hoa]
        · rw [if_neg g, hv v hvn]
          constructor
          · rintro (q | q); exact .inl q; exact .inr ⟨by omega, q.2⟩
          · rintro (q | q); exact .inl q; exact .inr ⟨by omega, q.2⟩)
      refine ⟨res, ?_, hq⟩
      refine Ev_succ ?_
      simp only [spec_l02Parts.l4]
      refine Ev.congr (fun k => if_pos (by omega)) (Ev.congr (fun k => if_pos (by omega)) (Ev.congr (fun k => if_pos (by omega)) ?_))
      rw [rdB]
      refine Ev.congr (fun k => if_pos hoa) (Ev.congr (fun k => if_pos (by omega)) (Ev.congr (fun k => if_pos (by omega)) ?_))
      rw [Int.toNat_natCast, wS (n := a) (by omega)]
      exact hr
    | false =>
      obtain ⟨res, hr, hq⟩ := ih (a + 1) met part (by omega) hm (by omega) (fun v hvn => by
        rw [hv v hvn]
        constructor
        · rintro (q | q); exact .inl q; exact .inr ⟨by omega, q.2⟩
        · rintro (q | q)
          · exact .inl q
          · refine .inr ⟨?_, q.2⟩
            by_cases g : v = a
            · rw [g, hoa] at q; exact absurd q.2 (by simp)
            · omega)
      refine ⟨res, ?_, hq⟩
      refine Ev_succ ?_
      simp only [spec_l02Parts.l4]
      refine Ev.congr (fun k => if_pos (by omega)) (Ev.congr (fun k => if_pos (by omega)) (Ev.congr (fun k => if_pos (by omega)) ?_))
      rw [rdB, wS (n := a) (by omega)]
      exact Ev.congr (fun k => if_neg (by rw [hoa]; simp)) hr
/-- The reference's parts are as many as the labels that are their own. -/
theorem parts_ev {n : Nat} {rows : List (List Int)} {r : Nat → Nat} (h : Lbl n rows r) : ∃ L, Ev (fun k => spec_l02Parts.f k rows) L ∧ L.length = roots r 0 n := by
  have hn6 := h.n6
  have hl := h.len
  have key : ∀ d i (met : List Bool) (out : List (List Int)), i + d = n → met.length = n → out.length ≤ i → (∀ v, v < n → (bAt met v = true ↔ r v < i)) → ∃ L, Ev (fun k => spec_l02Parts.l0 k rows met out (i : Int)) L ∧ L.length = out.length + roots r i d := by
    intro d
    induction d with
    | zero =>
      intro i met out hi hm ho hv
      refine ⟨out, ?_, rfl⟩
      refine Ev_succ ?_
      simp only [spec_l02Parts.l0]
      exact Ev.congr (fun k => if_neg (by omega)) (Ev.now _)
    | succ d ih =>
      intro i met out hi hm ho hv
      have hin : i < n := by omega
      have hri := h.lab.le i
      cases hmi : bAt met i with
      | true =>
        have h1 := (hv i hin).1 hmi
        obtain ⟨L, hL, hLl⟩ := ih (i + 1) met out (by omega) hm (by omega) (fun v hvn => by
          rw [hv v hvn]
          constructor
          · intro g; omega
          · intro g
            by_cases e : r v = i
            · have := h.lab.idem v
              rw [e] at this; omega
            · omega)
        refine ⟨L, ?_, by rw [hLl, roots, if_neg (by omega)]; omega⟩
        refine Ev_succ ?_
        simp only [spec_l02Parts.l0]
        refine Ev.congr (fun k => if_pos (by omega)) (Ev.congr (fun k => if_pos (by omega)) (Ev.congr (fun k => if_pos (by omega)) ?_))
        rw [rdB, wS (n := i) (by omega)]
        exact Ev.congr (fun k => if_pos hmi) hL
      | false =>
        have h1 : r i = i := by
          have : ¬ r i < i := fun g => by rw [(hv i hin).2 g] at hmi; exact absurd hmi (by simp)
          omega
        have hrep : bAt ((List.replicate n false).set i true) i = true := by rw [bAt_set (by simp; omega), if_pos rfl]
        obtain ⟨L, hL, hLl⟩ := parts_l1 h i hin met out (fun L => L.length = out.length + roots r i (d + 1)) (fun own hol hcls => by
          refine parts_l4 hn6 hl i own hol met out (by omega) _ (fun met' part hm' hv' => ?_) n 0 met [] (by omega) hm (by simp) (fun v hvn => by simp)
          obtain ⟨L, hL, hLl⟩ := ih (i + 1) met' (out ++ [part]) (by omega) hm' (by rw [List.length_append, List.length_singleton]; omega) (fun v hvn => by
            rw [hv' v hvn, hv v hvn, hcls v hvn, h1]; omega)
          refine ⟨L, ?_, by rw [hLl, roots, if_pos h1, List.length_append, List.length_singleton]; omega⟩
          rw [wS (n := i) (by omega)]
          exact hL) n ((List.replicate n false).set i true) (Nat.le_trans List.count_le_length (by simp)) (by simp) hrep (fun v hvn hv2 => by
          rw [bAt_set (by simp; omega)] at hv2
          by_cases g : v = i
          · rw [g]
          · rw [if_neg g] at hv2
            unfold bAt at hv2
            rw [List.getD_eq_getElem?_getD, List.getElem?_replicate] at hv2
            split at hv2 <;> simp at hv2)
        refine ⟨L, ?_, hLl⟩
        refine Ev_succ ?_
        simp only [spec_l02Parts.l0]
        refine Ev.congr (fun k => if_pos (by omega)) (Ev.congr (fun k => if_pos (by omega)) (Ev.congr (fun k => if_pos (by omega)) ?_))
        rw [rdB]
        refine Ev.congr (fun k => if_neg (by rw [hmi]; simp)) (Ev.congr (fun k => if_pos (by omega)) (Ev.congr (fun k => if_pos (by omega)) ?_))
        refine Ev.congr (fun k => Option.bind_some _ _) ?_
        rw [Int.toNat_natCast, Int.toNat_natCast, hl]
        exact Ev.congr (fun k => if_pos (by simp; omega)) hL
  obtain ⟨L, hL, hLl⟩ := key n 0 (List.replicate n false) [] (by omega) (by simp) (by simp) (fun v hvn => by
    unfold bAt
    rw [List.getD_eq_getElem?_getD, List.getElem?_replicate, if_pos hvn]
    simp)
  refine ⟨L, ?_, by rw [hLl]; simp⟩
  unfold spec_l02Parts.f
  refine Ev.congr (fun k => if_pos (by omega)) (Ev.congr (fun k => if_pos (by omega)) ?_)
  rw [Int.toNat_natCast, hl]
  exact hL
end Go.Proofs.Ytnlhhbnoccobmaa.Pure
