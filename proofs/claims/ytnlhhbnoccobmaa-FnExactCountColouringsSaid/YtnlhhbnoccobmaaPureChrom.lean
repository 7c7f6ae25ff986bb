/- Plain laws about colourings of a graph: divisions into independent sets, sums over sets of edges with signs, and the number of proper colourings come to the same. -/
namespace Go.Proofs.Ytnlhhbnoccobmaa.Chrom

/-! ### sums -/
/-- The sum of f over 0 .. n - 1. -/
def sumR (f : Nat → Int) : Nat → Int
  | 0 => 0
  | n + 1 => sumR f n + f n
theorem sumR_congr {f g : Nat → Int} : ∀ n, (∀ x, x < n → f x = g x) → sumR f n = sumR g n
  | 0, _ => rfl
  | n + 1, h => by rw [sumR, sumR, sumR_congr n (fun x hx => h x (by omega)), h n (by omega)]
theorem sumR_add (f g : Nat → Int) : ∀ n, sumR (fun x => f x + g x) n = sumR f n + sumR g n
  | 0 => rfl
  | n + 1 => by rw [sumR, sumR, sumR, sumR_add f g n]; omega
theorem sumR_sub (f g : Nat → Int) : ∀ n, sumR (fun x => f x - g x) n = sumR f n - sumR g n
  | 0 => rfl
  | n + 1 => by rw [sumR, sumR, sumR, sumR_sub f g n]; omega
theorem sumR_zero {f : Nat → Int} : ∀ n, (∀ x, x < n → f x = 0) → sumR f n = 0
  | 0, _ => rfl
  | n + 1, h => by rw [sumR, sumR_zero n (fun x hx => h x (by omega)), h n (by omega)]; rfl
theorem sumR_const (c : Int) : ∀ n : Nat, sumR (fun _ => c) n = n * c
  | 0 => by simp [sumR]
  | n + 1 => by rw [sumR, sumR_const c n, Int.natCast_add, Int.add_mul]; simp
theorem sumR_mul (c : Int) (f : Nat → Int) : ∀ n : Nat, sumR (fun x => c * f x) n = c * sumR f n
  | 0 => by simp [sumR]
  | n + 1 => by rw [sumR, sumR, sumR_mul c f n, Int.mul_add]
theorem sumR_one {f : Nat → Int} {a : Nat} : ∀ n, a < n → (∀ x, x < n → x ≠ a → f x = 0) → sumR f n = f a
  | 0, h, _ => absurd h (Nat.not_lt_zero _)
  | n + 1, h, h0 => by
    rw [sumR]
    by_cases e : a = n
    · rw [sumR_zero n (fun x hx => h0 x (by omega) (by omega)), e]; omega
    · rw [sumR_one n (by omega) (fun x hx hne => h0 x (by omega) hne), h0 n (by omega) (Ne.symm e)]; omega
def sumL {α : Type} (f : α → Int) : List α → Int
  | [] => 0
  | a :: l => f a + sumL f l
theorem sumL_congr {α : Type} {f g : α → Int} : ∀ l : List α, (∀ x, x ∈ l → f x = g x) → sumL f l = sumL g l
  | [], _ => rfl
  | a :: l, h => by rw [sumL, sumL, h a List.mem_cons_self, sumL_congr l (fun x hx => h x (List.mem_cons_of_mem _ hx))]
theorem sumL_mul {α : Type} (c : Int) (f : α → Int) : ∀ l : List α, sumL (fun x => c * f x) l = c * sumL f l
  | [] => by simp [sumL]
  | a :: l => by rw [sumL, sumL, sumL_mul c f l, Int.mul_add]
theorem sumL_map {α β : Type} (g : β → α) (f : α → Int) : ∀ l : List β, sumL f (l.map g) = sumL (fun x => f (g x)) l
  | [] => rfl
  | a :: l => by rw [List.map_cons, sumL, sumL, sumL_map g f l]
theorem sumR_pick (k : Nat) : ∀ (cols : List Nat) (f : Nat → Int), cols.Nodup → (∀ x ∈ cols, x < k) → (∀ x, x < k → x ∉ cols → f x = 0) → sumR f k = sumL f cols
  | [], f, _, _, h => sumR_zero k (fun x hx => h x hx (by simp))
  | a :: l, f, hd, hk, h => by
    have hd' := List.nodup_cons.1 hd
    have h1 : sumR f k = sumR (fun x => (if x = a then 0 else f x) + (if x = a then f x else 0)) k := sumR_congr k fun x _ => by split <;> omega
    rw [h1, sumR_add, sumR_one (f := fun x => if x = a then f x else 0) (a := a) k (hk a List.mem_cons_self) (fun x _ hx => if_neg hx), if_pos rfl]
    rw [sumR_pick k l (fun x => if x = a then 0 else f x) hd'.2 (fun x hx => hk x (List.mem_cons_of_mem _ hx)) (fun x hx hn => by
      by_cases e : x = a
      · exact if_pos e
      · show (if x = a then 0 else f x) = 0
        rw [if_neg e]; exact h x hx (fun hm => by rcases List.mem_cons.1 hm with g | g <;> contradiction))]
    rw [sumL, sumL_congr l (g := f) (fun x hx => if_neg fun (e : x = a) => hd'.1 (e ▸ hx))]
    omega
/-- Some picked numbers, and one value at all others. -/
theorem sumR_split (k : Nat) (cols : List Nat) (f : Nat → Int) (h0 : Int) (hd : cols.Nodup) (hk : ∀ x ∈ cols, x < k) (h : ∀ x, x < k → x ∉ cols → f x = h0) : sumR f k = sumL f cols + ((k : Int) - cols.length) * h0 := by
  have e : sumR f k = sumR (fun x => (f x - h0) + h0) k := sumR_congr k fun x _ => by omega
  rw [e, sumR_add (fun x => f x - h0) (fun _ => h0), sumR_const, sumR_pick k cols (fun x => f x - h0) hd hk (fun x hx hn => by show f x - h0 = 0; rw [h x hx hn]; omega)]
  have g : ∀ l : List Nat, sumL (fun x => f x - h0) l = sumL f l - l.length * h0 := by
    intro l
    induction l with
    | nil => simp [sumL]
    | cons a l ih => rw [sumL, sumL, ih, List.length_cons, Int.natCast_add, Int.add_mul]; omega
  rw [g, Int.sub_mul]; omega

/-! ### sums over all colourings -/
def tot (k : Nat) (W : List Nat → Int) : Nat → List Nat → Int
  | 0, c => W c
  | d + 1, c => sumR (fun x => tot k W d (c ++ [x])) k
theorem tot_congr {k : Nat} {W V : List Nat → Int} : ∀ (d : Nat) (c : List Nat), (∀ e : List Nat, e.length = d → (∀ x ∈ e, x < k) → W (c ++ e) = V (c ++ e)) → tot k W d c = tot k V d c
  | 0, c, h => by have := h [] rfl (by simp); rw [List.append_nil] at this; exact this
  | d + 1, c, h => by
    rw [tot, tot]
    refine sumR_congr k fun x hx => tot_congr d _ fun e he hk => ?_
    rw [List.append_assoc]
    exact h ([x] ++ e) (by rw [List.length_append, he, List.length_singleton]; omega) (fun y hy => by
      rcases List.mem_append.1 hy with g | g
      · rw [List.mem_singleton] at g; omega
      · exact hk y g)
theorem tot_sub (k : Nat) (W V : List Nat → Int) : ∀ (d : Nat) (c : List Nat), tot k (fun c => W c - V c) d c = tot k W d c - tot k V d c
  | 0, _ => rfl
  | d + 1, c => by
    rw [tot, tot, tot, ← sumR_sub]
    exact sumR_congr k fun x _ => tot_sub k W V d _
theorem tot_zero (k : Nat) (W : List Nat → Int) : ∀ (d : Nat) (c : List Nat), (∀ e : List Nat, e.length = d → W (c ++ e) = 0) → tot k W d c = 0
  | 0, c, h => by have := h [] rfl; rw [List.append_nil] at this; exact this
  | d + 1, c, h => by
    rw [tot]
    refine sumR_zero k fun x _ => tot_zero k W d _ fun e he => ?_
    rw [List.append_assoc]
    exact h ([x] ++ e) (by rw [List.length_append, he, List.length_singleton]; omega)

/-! ### labels of parts, and edges that join parts -/
/-- What stands at place v. -/
def at_ (c : List Nat) (v : Nat) : Nat := c.getD v 0
theorem at_app {c e : List Nat} {v : Nat} (h : v < c.length) : at_ (c ++ e) v = at_ c v := by
  unfold at_; rw [List.getD_eq_getElem?_getD, List.getElem?_append_left h, ← List.getD_eq_getElem?_getD]
theorem at_last (c e : List Nat) (x : Nat) : at_ (c ++ x :: e) c.length = x := by
  unfold at_; rw [List.getD_eq_getElem?_getD, List.getElem?_append_right (Nat.le_refl _)]; simp
theorem at_mem {c : List Nat} {v : Nat} (h : v < c.length) : at_ c v ∈ c := by
  unfold at_; rw [List.getD_eq_getElem?_getD, List.getElem?_eq_getElem h]; exact List.getElem_mem h
structure Lab (r : Nat → Nat) : Prop where
  le : ∀ v, r v ≤ v
  idem : ∀ v, r (r v) = r v
theorem Lab.id : Lab id := ⟨fun _ => Nat.le_refl _, fun _ => rfl⟩
def merge (r : Nat → Nat) (e : Nat × Nat) : Nat → Nat := fun v => if r v = max (r e.1) (r e.2) then min (r e.1) (r e.2) else r v
theorem min_is (a b : Nat) : min a b = a ∨ min a b = b := by omega
theorem max_is (a b : Nat) : max a b = a ∨ max a b = b := by omega
theorem Lab.merge {r : Nat → Nat} (h : Lab r) (e : Nat × Nat) : Lab (merge r e) := by
  have hm : r (min (r e.1) (r e.2)) = min (r e.1) (r e.2) := by
    rcases min_is (r e.1) (r e.2) with g | g <;> rw [g] <;> exact h.idem _
  refine ⟨fun v => ?_, fun v => ?_⟩
  · have := h.le v
    unfold Chrom.merge; split <;> omega
  · unfold Chrom.merge
    by_cases g : r v = max (r e.1) (r e.2)
    · rw [if_pos g, hm]; split <;> rfl
    · rw [if_neg g, h.idem, if_neg g]
/-- A list has the same at each place as at its label. -/
def Fits (n : Nat) (r : Nat → Nat) (c : List Nat) : Prop := ∀ v, v < n → at_ c v = at_ c (r v)
theorem fits_merge {n : Nat} {r : Nat → Nat} (h : Lab r) (e : Nat × Nat) (h1 : e.1 < n) (h2 : e.2 < n) (c : List Nat) : Fits n (merge r e) c ↔ Fits n r c ∧ at_ c e.1 = at_ c e.2 := by
  have hM : r (max (r e.1) (r e.2)) = max (r e.1) (r e.2) := by
    rcases max_is (r e.1) (r e.2) with g | g <;> rw [g] <;> exact h.idem _
  have l1 := h.le e.1
  have l2 := h.le e.2
  constructor
  · intro hf
    have hMm : at_ c (max (r e.1) (r e.2)) = at_ c (min (r e.1) (r e.2)) := by
      have := hf (max (r e.1) (r e.2)) (by omega)
      unfold merge at this
      rw [if_pos hM] at this; exact this
    have hr : Fits n r c := by
      intro v hv
      have := hf v hv
      unfold merge at this
      by_cases g : r v = max (r e.1) (r e.2)
      · rw [if_pos g] at this; rw [this, g, hMm]
      · rw [if_neg g] at this; exact this
    refine ⟨hr, ?_⟩
    rw [hr e.1 h1, hr e.2 h2]
    rcases Nat.le_total (r e.1) (r e.2) with g | g
    · rw [Nat.max_eq_right g, Nat.min_eq_left g] at hMm; exact hMm.symm
    · rw [Nat.max_eq_left g, Nat.min_eq_right g] at hMm; exact hMm
  · intro ⟨hr, he⟩ v hv
    unfold merge
    have hMm : at_ c (max (r e.1) (r e.2)) = at_ c (min (r e.1) (r e.2)) := by
      rw [hr e.1 h1, hr e.2 h2] at he
      rcases Nat.le_total (r e.1) (r e.2) with g | g
      · rw [Nat.max_eq_right g, Nat.min_eq_left g]; exact he.symm
      · rw [Nat.max_eq_left g, Nat.min_eq_right g]; exact he
    by_cases g : r v = max (r e.1) (r e.2)
    · rw [if_pos g, hr v hv, g, hMm]
    · rw [if_neg g]; exact hr v hv
def Apart (E : List (Nat × Nat)) (c : List Nat) : Prop := ∀ e, e ∈ E → at_ c e.1 ≠ at_ c e.2
open Classical in
/-- 1 at lists that are the same along the labels, and not the same along the edges. -/
noncomputable def wt (n : Nat) (E : List (Nat × Nat)) (r : Nat → Nat) (c : List Nat) : Int := if Fits n r c ∧ Apart E c then 1 else 0
theorem wt_cons {n : Nat} {r : Nat → Nat} (h : Lab r) (e : Nat × Nat) (E : List (Nat × Nat)) (h1 : e.1 < n) (h2 : e.2 < n) (c : List Nat) : wt n (e :: E) r c = wt n E r c - wt n E (merge r e) c := by
  have hm := fits_merge h e h1 h2 c
  unfold wt
  have ha : Apart (e :: E) c ↔ at_ c e.1 ≠ at_ c e.2 ∧ Apart E c := by unfold Apart; rw [List.forall_mem_cons]
  rw [ha, hm]
  by_cases a : Fits n r c <;> by_cases b : at_ c e.1 = at_ c e.2 <;> by_cases d : Apart E c <;> simp [a, b, d]
/-- How many of d labels from m on are their own. -/
def roots (r : Nat → Nat) (m : Nat) : Nat → Nat
  | 0 => 0
  | d + 1 => roots r (m + 1) d + (if r m = m then 1 else 0)
theorem wt_base {n k : Nat} {r : Nat → Nat} (h : Lab r) : ∀ (d : Nat) (c : List Nat), c.length + d = n → (∀ x ∈ c, x < k) → (∀ v, v < c.length → at_ c v = at_ c (r v)) → tot k (wt n [] r) d c = (k : Int) ^ roots r c.length d
  | 0, c, hl, _, hf => by
    rw [tot, roots, Int.pow_zero]
    exact if_pos ⟨fun v hv => hf v (by omega), fun e he => absurd he (by simp)⟩
  | d + 1, c, hl, hk, hf => by
    rw [tot, roots]
    have step : ∀ x, x < k → at_ (c ++ [x]) (r c.length) = x → tot k (wt n [] r) d (c ++ [x]) = (k : Int) ^ roots r (c.length + 1) d := by
      intro x hx hr
      have := wt_base (n := n) h d (c ++ [x]) (by rw [List.length_append, List.length_singleton]; omega) (fun y hy => by
        rcases List.mem_append.1 hy with g | g
        · exact hk y g
        · rw [List.mem_singleton] at g; omega) (fun v hv => by
        rw [List.length_append, List.length_singleton] at hv
        by_cases e : v = c.length
        · rw [e, at_last, hr]
        · have := h.le v
          rw [at_app (by omega), at_app (by omega)]; exact hf v (by omega))
      rw [this, List.length_append, List.length_singleton]
    by_cases e : r c.length = c.length
    · rw [if_pos e, sumR_congr k (g := fun _ => (k : Int) ^ roots r (c.length + 1) d) (fun x hx => step x hx (by rw [e, at_last])), sumR_const, Int.pow_succ, Int.mul_comm]
    · rw [if_neg e, Nat.add_zero]
      have hl := h.le c.length
      have hlt : at_ c (r c.length) < k := hk _ (at_mem (by omega))
      rw [sumR_one (a := at_ c (r c.length)) k hlt (fun x hx hne => tot_zero k _ d _ fun y hy => ?_)]
      · exact step _ hlt (by rw [at_app (by omega)])
      · refine if_neg fun hh => hne ?_
        have := hh.1 c.length (by omega)
        rw [List.append_assoc, List.singleton_append, at_last, at_app (by omega)] at this
        exact this
/-- The sum over all sets of edges, with signs. -/
def subs (n : Nat) (x : Int) : List (Nat × Nat) → (Nat → Nat) → Int
  | [], r => x ^ roots r 0 n
  | e :: E, r => subs n x E r - subs n x E (merge r e)
theorem tot_subs {n k : Nat} : ∀ (E : List (Nat × Nat)) (r : Nat → Nat), Lab r → (∀ e ∈ E, e.1 < n ∧ e.2 < n) → tot k (wt n E r) n [] = subs n k E r
  | [], r, h, _ => wt_base h n [] (by simp) (by simp) (by simp)
  | e :: E, r, h, hE => by
    rw [subs, tot_congr n [] (V := fun c => wt n E r c - wt n E (merge r e) c) (fun c _ _ => wt_cons h e E (hE e List.mem_cons_self).1 (hE e List.mem_cons_self).2 _), tot_sub,
      tot_subs E r h (fun e he => hE e (List.mem_cons_of_mem _ he)), tot_subs E (merge r e) (h.merge e) (fun e he => hE e (List.mem_cons_of_mem _ he))]

/-! ### proper colourings, place by place -/
def pairsOf (X : Nat → Nat → Bool) (n : Nat) : List (Nat × Nat) := (List.range n).flatMap fun i => ((List.range i).filter fun k => X i k).map fun k => (i, k)
theorem mem_pairs {X : Nat → Nat → Bool} {n : Nat} {e : Nat × Nat} : e ∈ pairsOf X n ↔ e.1 < n ∧ e.2 < e.1 ∧ X e.1 e.2 = true := by
  unfold pairsOf
  simp only [List.mem_flatMap, List.mem_map, List.mem_filter, List.mem_range]
  constructor
  · rintro ⟨i, hi, k, ⟨hk, hx⟩, rfl⟩; exact ⟨hi, hk, hx⟩
  · rintro ⟨h1, h2, h3⟩; exact ⟨e.1, h1, e.2, ⟨h2, h3⟩, rfl⟩
def okc (X : Nat → Nat → Bool) (c : List Nat) (x : Nat) : Bool := (List.range c.length).all fun v => !(X c.length v) || !(at_ c v == x)
/-- How many proper colourings with k colours go on from some colours, d more places. -/
def ext (X : Nat → Nat → Bool) (k : Nat) : Nat → List Nat → Int
  | 0, _ => 1
  | d + 1, c => sumR (fun x => if okc X c x = true then ext X k d (c ++ [x]) else 0) k
theorem okc_iff {X : Nat → Nat → Bool} {c : List Nat} {x : Nat} : okc X c x = true ↔ ∀ v, v < c.length → X c.length v = true → at_ c v ≠ x := by
  unfold okc
  simp only [List.all_eq_true, List.mem_range, Bool.or_eq_true, Bool.not_eq_true', beq_eq_false_iff_ne]
  constructor
  · intro h v hv hx
    rcases h v hv with g | g
    · rw [hx] at g; exact absurd g (by simp)
    · exact g
  · intro h v hv
    cases g : X c.length v with
    | false => exact .inl rfl
    | true => exact .inr (h v hv g)
def Good (X : Nat → Nat → Bool) (m : Nat) (c : List Nat) : Prop := ∀ i, i < m → ∀ v, v < i → X i v = true → at_ c i ≠ at_ c v
theorem tot_ext {X : Nat → Nat → Bool} {n k : Nat} : ∀ (d : Nat) (c : List Nat), c.length + d = n → Good X c.length c → tot k (wt n (pairsOf X n) id) d c = ext X k d c
  | 0, c, hl, hg => by
    rw [tot, ext]
    refine if_pos ⟨fun _ _ => rfl, fun e he => ?_⟩
    have := mem_pairs.1 he
    exact hg e.1 (by omega) e.2 this.2.1 this.2.2
  | d + 1, c, hl, hg => by
    rw [tot, ext]
    refine sumR_congr k fun x _ => ?_
    by_cases ho : okc X c x = true
    · rw [if_pos ho]
      refine tot_ext d (c ++ [x]) (by rw [List.length_append, List.length_singleton]; omega) fun i hi v hv hx => ?_
      rw [List.length_append, List.length_singleton] at hi
      by_cases e : i = c.length
      · subst e
        rw [at_last, at_app (by omega)]
        exact fun h => okc_iff.1 ho v hv hx h.symm
      · rw [at_app (by omega), at_app (by omega)]
        exact hg i (by omega) v hv hx
    · rw [if_neg ho]
      refine tot_zero k _ d _ fun y hy => if_neg fun hh => ho (okc_iff.2 fun v hv hx => ?_)
      have := hh.2 (c.length, v) (mem_pairs.2 ⟨by omega, hv, hx⟩)
      rw [List.append_assoc, List.singleton_append, at_last, at_app hv] at this
      exact fun h => this h.symm
theorem ext_subs (X : Nat → Nat → Bool) (n k : Nat) : ext X k n [] = subs n k (pairsOf X n) id := by
  rw [← tot_subs (pairsOf X n) id Lab.id (fun e he => by have := mem_pairs.1 he; omega)]
  exact (tot_ext n [] (by simp) (fun i hi => absurd hi (Nat.not_lt_zero _))).symm

/-! ### divisions into independent sets -/
def indep (X : Nat → Nat → Bool) (s : List Nat) (i : Nat) : Bool := s.all fun a => !(X i a)
def into (L : List (List Nat)) (t i : Nat) : List (List Nat) := L.set t (L.getD t [] ++ [i])
def divs (X : Nat → Nat → Bool) (k : Nat) : Nat → Nat → List (List Nat) → Int
  | 0, _, _ => 1
  | d + 1, i, L => sumL (fun t => if indep X (L.getD t []) i = true then divs X k d (i + 1) (into L t i) else 0) (List.range L.length) + ((k : Int) - L.length) * divs X k d (i + 1) (L ++ [[i]])
/-- The sets of a list are the places of colours. -/
structure Cl (k : Nat) (c : List Nat) (L : List (List Nat)) (cols : List Nat) : Prop where
  len : cols.length = L.length
  nod : cols.Nodup
  lt : ∀ x ∈ cols, x < k
  all : ∀ v, v < c.length → at_ c v ∈ cols
  mem : ∀ t, t < L.length → ∀ v, v ∈ L.getD t [] ↔ v < c.length ∧ at_ c v = cols.getD t 0
theorem getD_set {α : Type} (L : List α) (t s : Nat) (a d : α) (hs : s < L.length) : (L.set t a).getD s d = if s = t then a else L.getD s d := by
  rw [List.getD_eq_getElem?_getD, List.getElem?_set]
  by_cases e : t = s
  · rw [if_pos e, if_pos (by omega), if_pos e.symm]; rfl
  · rw [if_neg e, if_neg (Ne.symm e), ← List.getD_eq_getElem?_getD]
theorem getD_app {α : Type} (L M : List α) (s : Nat) (d : α) (hs : s < L.length) : (L ++ M).getD s d = L.getD s d := by
  rw [List.getD_eq_getElem?_getD, List.getElem?_append_left hs, ← List.getD_eq_getElem?_getD]
theorem getD_app1 {α : Type} (L : List α) (a d : α) : (L ++ [a]).getD L.length d = a := by
  rw [List.getD_eq_getElem?_getD, List.getElem?_append_right (Nat.le_refl _)]; simp
theorem nodup_getD {cols : List Nat} (hd : cols.Nodup) {s t : Nat} (hs : s < cols.length) (ht : t < cols.length) (h : cols.getD s 0 = cols.getD t 0) : s = t := by
  rw [List.getD_eq_getElem?_getD, List.getD_eq_getElem?_getD, List.getElem?_eq_getElem hs, List.getElem?_eq_getElem ht] at h
  simp only [Option.getD_some] at h
  rw [← hd.idxOf_getElem s hs, ← hd.idxOf_getElem t ht, h]
theorem getD_mem_nat {cols : List Nat} {t : Nat} (ht : t < cols.length) : cols.getD t 0 ∈ cols := at_mem (c := cols) ht
theorem Cl.into {k : Nat} {c : List Nat} {L : List (List Nat)} {cols : List Nat} (h : Cl k c L cols) {t : Nat} (ht : t < L.length) : Cl k (c ++ [cols.getD t 0]) (into L t c.length) cols := by
  have hl := h.len
  refine ⟨by unfold Chrom.into; rw [List.length_set]; exact hl, h.nod, h.lt, fun v hv => ?_, fun s hs v => ?_⟩
  · rw [List.length_append, List.length_singleton] at hv
    by_cases e : v = c.length
    · rw [e, at_last]; exact getD_mem_nat (by omega)
    · rw [at_app (by omega)]; exact h.all v (by omega)
  · unfold Chrom.into at hs ⊢
    rw [List.length_set] at hs
    rw [getD_set _ _ _ _ _ hs, List.length_append, List.length_singleton]
    have hm := h.mem s hs v
    by_cases e : s = t
    · rw [if_pos e, List.mem_append, ← e, hm, List.mem_singleton]
      by_cases g : v = c.length
      · rw [g, at_last]; omega
      · by_cases g' : v < c.length
        · rw [at_app g']; simp only [g, or_false]; omega
        · omega
    · rw [if_neg e, hm]
      by_cases g : v = c.length
      · rw [g, at_last]
        refine ⟨fun hh => absurd hh.1 (Nat.lt_irrefl _), fun hh => absurd (nodup_getD h.nod (by omega) (by omega) hh.2) (Ne.symm e)⟩
      · by_cases g' : v < c.length
        · rw [at_app g']; omega
        · omega
theorem Cl.new {k : Nat} {c : List Nat} {L : List (List Nat)} {cols : List Nat} (h : Cl k c L cols) {x : Nat} (hx : x ∉ cols) (hk : x < k) : Cl k (c ++ [x]) (L ++ [[c.length]]) (cols ++ [x]) := by
  have hl := h.len
  refine ⟨by simp [hl], ?_, ?_, fun v hv => ?_, fun s hs v => ?_⟩
  · rw [List.nodup_append]
    exact ⟨h.nod, List.nodup_cons.2 ⟨by simp, List.nodup_nil⟩, fun a ha b hb => by rw [List.mem_singleton] at hb; subst hb; intro e; subst e; exact hx ha⟩
  · intro y hy
    rcases List.mem_append.1 hy with g | g
    · exact h.lt y g
    · rw [List.mem_singleton] at g; omega
  · rw [List.length_append, List.length_singleton] at hv
    by_cases e : v = c.length
    · rw [e, at_last]; simp
    · rw [at_app (by omega)]; exact List.mem_append_left _ (h.all v (by omega))
  · rw [List.length_append, List.length_singleton] at hs
    rw [List.length_append, List.length_singleton]
    by_cases e : s = L.length
    · rw [e, getD_app1, ← hl, getD_app1, List.mem_singleton]
      by_cases g : v = c.length
      · rw [g, at_last]; omega
      · by_cases g' : v < c.length
        · rw [at_app g']
          exact ⟨fun hh => absurd hh g, fun hh => absurd (hh.2 ▸ h.all v g') hx⟩
        · omega
    · rw [getD_app _ _ _ _ (by omega), getD_app _ _ _ _ (by omega), h.mem s (by omega) v]
      by_cases g : v = c.length
      · rw [g, at_last]
        exact ⟨fun hh => absurd hh.1 (Nat.lt_irrefl _), fun hh => absurd (hh.2 ▸ getD_mem_nat (by omega)) hx⟩
      · by_cases g' : v < c.length
        · rw [at_app g']; omega
        · omega
theorem map_range_getD (cols : List Nat) : (List.range cols.length).map (fun t => cols.getD t 0) = cols := by
  apply List.ext_getElem
  · simp
  · intro i h1 h2
    rw [List.getElem_map, List.getElem_range, List.getD_eq_getElem?_getD, List.getElem?_eq_getElem h2]; rfl
theorem ext_divs {X : Nat → Nat → Bool} {k : Nat} : ∀ (d : Nat) (c : List Nat) (L : List (List Nat)) (cols : List Nat), Cl k c L cols → ext X k d c = divs X k d c.length L
  | 0, _, _, _, _ => rfl
  | d + 1, c, L, cols, h => by
    have hl := h.len
    rw [ext, divs]
    rw [sumR_split k cols _ (divs X k d (c.length + 1) (L ++ [[c.length]])) h.nod h.lt (fun x hx hn => by
      rw [if_pos (okc_iff.2 fun v hv _ (e : at_ c v = x) => hn (e ▸ h.all v hv)), ext_divs d _ _ _ (h.new hn hx), List.length_append, List.length_singleton]), hl]
    congr 1
    conv => lhs; rw [← map_range_getD cols, sumL_map]
    rw [hl]
    refine sumL_congr _ fun t ht => ?_
    have ht' : t < L.length := List.mem_range.1 ht
    have e : okc X c (cols.getD t 0) = indep X (L.getD t []) c.length := by
      rw [Bool.eq_iff_iff, okc_iff]
      unfold indep
      simp only [List.all_eq_true, Bool.not_eq_true']
      constructor
      · intro hh a ha
        have := (h.mem t ht' a).1 ha
        cases g : X c.length a with
        | false => rfl
        | true => exact absurd this.2 (hh a this.1 g)
      · intro hh v hv hx e
        have := hh v ((h.mem t ht' v).2 ⟨hv, e⟩)
        rw [hx] at this; exact absurd this (by simp)
    rw [e]
    by_cases g : indep X (L.getD t []) c.length = true
    · rw [if_pos g, if_pos g, ext_divs d _ _ _ (h.into ht'), List.length_append, List.length_singleton]
    · rw [if_neg g, if_neg g]

/-! ### the numbers of divisions -/
def cls (X : Nat → Nat → Bool) : Nat → Nat → List (List Nat) → List Int → List Int
  | 0, _, L, out => out.set L.length (out.getD L.length 0 + 1)
  | d + 1, i, L, out => cls X d (i + 1) (L ++ [[i]]) ((List.range L.length).foldl (fun o t => if indep X (L.getD t []) i = true then cls X d (i + 1) (into L t i) o else o) out)
def fall (k : Int) : Nat → Int
  | 0 => 1
  | j + 1 => fall k j * (k - j)
def ev (k : Int) (out : List Int) : Int := sumR (fun j => out.getD j 0 * fall k j) out.length
theorem ev_set (k : Int) (out : List Int) (j : Nat) (a : Int) (hj : j < out.length) : ev k (out.set j (out.getD j 0 + a)) = ev k out + a * fall k j := by
  unfold ev
  rw [List.length_set]
  have h := sumR_one (f := fun s => if s = j then a * fall k j else 0) (a := j) out.length hj (fun x _ hx => if_neg hx)
  simp only [if_true] at h
  rw [← h, ← sumR_add]
  refine sumR_congr _ fun s hs => ?_
  rw [getD_set _ _ _ _ _ hs]
  by_cases e : s = j
  · rw [if_pos e, if_pos e, e, Int.add_mul]
  · rw [if_neg e, if_neg e]; omega
theorem cls_len (X : Nat → Nat → Bool) : ∀ (d i : Nat) (L : List (List Nat)) (out : List Int), (cls X d i L out).length = out.length
  | 0, _, _, _ => by rw [cls, List.length_set]
  | d + 1, i, L, out => by
    rw [cls, cls_len X d]
    suffices h : ∀ (l : List Nat) (o : List Int), (l.foldl (fun o t => if indep X (L.getD t []) i = true then cls X d (i + 1) (into L t i) o else o) o).length = o.length from h _ _
    intro l
    induction l with
    | nil => intro o; rfl
    | cons a l ih =>
      intro o
      rw [List.foldl_cons, ih]
      split
      · exact cls_len X d _ _ _
      · rfl
theorem into_len (L : List (List Nat)) (t i : Nat) : (into L t i).length = L.length := by unfold into; rw [List.length_set]
theorem cls_ev (X : Nat → Nat → Bool) (k : Nat) : ∀ (d i : Nat) (L : List (List Nat)) (out : List Int), L.length + d < out.length → ev k (cls X d i L out) = ev k out + fall k L.length * divs X k d i L
  | 0, i, L, out, h => by rw [cls, divs, ev_set k out L.length 1 (by omega)]; omega
  | d + 1, i, L, out, h => by
    have hf : ∀ (l : List Nat) (o : List Int), o.length = out.length → (l.foldl (fun o t => if indep X (L.getD t []) i = true then cls X d (i + 1) (into L t i) o else o) o).length = out.length ∧
        ev k (l.foldl (fun o t => if indep X (L.getD t []) i = true then cls X d (i + 1) (into L t i) o else o) o) = ev k o + fall k L.length * sumL (fun t => if indep X (L.getD t []) i = true then divs X k d (i + 1) (into L t i) else 0) l := by
      intro l
      induction l with
      | nil => intro o ho; rw [List.foldl_nil, sumL, Int.mul_zero]; exact ⟨ho, by omega⟩
      | cons a l ih =>
        intro o ho
        rw [List.foldl_cons, sumL]
        by_cases g : indep X (L.getD a []) i = true
        · rw [if_pos g, if_pos g]
          have := ih (cls X d (i + 1) (into L a i) o) (by rw [cls_len]; exact ho)
          refine ⟨this.1, ?_⟩
          rw [this.2, cls_ev X k d _ _ _ (by rw [into_len]; omega), into_len, Int.mul_add]; omega
        · rw [if_neg g, if_neg g, Int.zero_add]
          exact ih o ho
    have h1 := hf (List.range L.length) out rfl
    rw [cls, divs, cls_ev X k d _ _ _ (by rw [List.length_append, List.length_singleton, h1.1]; omega), h1.2, List.length_append, List.length_singleton, fall, Int.mul_add, Int.mul_assoc, Int.add_assoc]
theorem fall_pos (k : Nat) : ∀ j : Nat, j ≤ k → 0 < fall k j
  | 0, _ => by show (0 : Int) < 1; decide
  | j + 1, h => by rw [fall]; exact Int.mul_pos (fall_pos k j (by omega)) (by omega)
theorem fall_zero (k : Nat) : ∀ j : Nat, k < j → fall k j = 0
  | 0, h => absurd h (Nat.not_lt_zero _)
  | j + 1, h => by
    rw [fall]
    by_cases e : j = k
    · rw [e, Int.sub_self, Int.mul_zero]
    · rw [fall_zero k j (by omega), Int.zero_mul]
/-- The numbers of divisions of n places. -/
def clsOf (X : Nat → Nat → Bool) (n : Nat) : List Int := cls X n 0 [] (List.replicate (n + 1) 0)
theorem clsOf_len (X : Nat → Nat → Bool) (n : Nat) : (clsOf X n).length = n + 1 := by unfold clsOf; rw [cls_len, List.length_replicate]
theorem clsOf_ev (X : Nat → Nat → Bool) (n k : Nat) : ev k (clsOf X n) = ext X k n [] := by
  unfold clsOf
  rw [cls_ev X k n 0 [] _ (by simp)]
  rw [ext_divs n [] [] [] ⟨rfl, List.nodup_nil, by simp, by simp, by simp⟩]
  have : ev k (List.replicate (n + 1) 0) = 0 := by
    unfold ev
    refine sumR_zero _ fun j hj => ?_
    rw [List.length_replicate] at hj
    rw [List.getD_eq_getElem?_getD, List.getElem?_replicate, if_pos hj]; simp
  rw [this]; simp [fall]
theorem clsOf_subs (X : Nat → Nat → Bool) (n k : Nat) : ev k (clsOf X n) = subs n k (pairsOf X n) id := by rw [clsOf_ev, ext_subs]

/-! ### polynomials -/
def pv (x : Int) : List Int → Int
  | [] => 0
  | a :: l => a + x * pv x l
theorem pv_inj : ∀ p q : List Int, p.length = q.length → (∀ k : Nat, 1 ≤ k → pv k p = pv k q) → p = q
  | [], [], _, _ => rfl
  | [], _ :: _, h, _ => absurd h (by simp)
  | _ :: _, [], h, _ => absurd h (by simp)
  | a :: p, b :: q, hl, h => by
    have hd : ∀ k : Nat, 1 ≤ k → (k : Int) ∣ a - b := fun k hk => by
      have := h k hk
      rw [pv, pv] at this
      exact ⟨pv k q - pv k p, by rw [Int.mul_sub]; omega⟩
    have hab : a = b := by
      have hd1 := hd ((a - b).natAbs + 1) (by omega)
      have h0 : (a - b).natAbs = 0 := Nat.eq_zero_of_dvd_of_lt (Int.ofNat_dvd_left.1 hd1) (by omega)
      omega
    subst hab
    have : p = q := pv_inj p q (by simpa using hl) (fun k hk => by
      have := h k hk
      rw [pv, pv] at this
      exact Int.eq_of_mul_eq_mul_left (a := (k : Int)) (by omega) (by omega))
    rw [this]
theorem pv_replicate (x : Int) : ∀ n, pv x (List.replicate n 0) = 0
  | 0 => rfl
  | n + 1 => by rw [List.replicate_succ, pv, pv_replicate x n]; simp
theorem pv_set (x : Int) : ∀ (p : List Int) (j : Nat) (a : Int), j < p.length → pv x (p.set j (p.getD j 0 + a)) = pv x p + a * x ^ j
  | [], j, a, h => absurd h (Nat.not_lt_zero _)
  | b :: p, 0, a, _ => by rw [List.set_cons_zero, pv, pv]; simp; omega
  | b :: p, j + 1, a, h => by
    rw [List.set_cons_succ, pv, pv, List.getD_cons_succ, pv_set x p j a (by simpa using h), Int.mul_add, Int.pow_succ]
    have : x * (a * x ^ j) = a * (x ^ j * x) := by rw [← Int.mul_assoc, Int.mul_comm x a, Int.mul_assoc, Int.mul_comm x]
    omega
end Go.Proofs.Ytnlhhbnoccobmaa.Chrom
