/- Plain laws: words alike, as graphs alike (a renaming exists exactly when the least codes are the same). -/
import Derived.Test.YtfijnlbkflmkbaaFx126
import Derived.Test.YtfijnlbkflmkbaaFx65
import Derived.Test.YtfijnlbkflmkbaaFx66
import Derived.Test.YtfijnlbkflmkbaaPureAlike
namespace Go.Proofs.Ytfijnlbkflmkbaa.Pure
open Go.RowKit Go.Proofs.Ytfijnlbkflmkbaa.F Go.Proofs.Ytfijnlbkflmkbaa.Mem Go.Proofs.YtfijnlbkflmkbaaW.PrintWords Go.Proofs.YtfijnlbkflmkbaaW.PrintLast
set_option linter.unusedVariables false
set_option linter.unusedSimpArgs false

/-! ### the least of a list -/
theorem cmpL_anti : ∀ a b : List Int, a.length = b.length → ¬ 0 < cmpL a b → ¬ 0 < cmpL b a → a = b
  | [], [], _, _, _ => rfl
  | [], _ :: _, h, _, _ => by simp at h
  | _ :: _, [], h, _, _ => by simp at h
  | x :: a, y :: b, h, h1, h2 => by
    rw [cmpL] at h1 h2
    by_cases c1 : x < y
    · rw [if_neg (by omega), if_pos (by omega)] at h2; omega
    · rw [if_neg c1] at h1
      by_cases c2 : x > y
      · rw [if_pos c2] at h1; omega
      · rw [if_neg c2] at h1
        rw [if_neg (by omega), if_neg (by omega)] at h2
        rw [show x = y by omega, cmpL_anti a b (by simpa using h) h1 h2]
theorem cmpL_tot : ∀ a b : List Int, 0 < cmpL a b → ¬ 0 < cmpL b a
  | [], [], h => by rw [cmpL] at h; omega
  | [], _ :: _, h => by rw [cmpL] at h; omega
  | _ :: _, [], _ => by rw [cmpL]; omega
  | x :: a, y :: b, h => by
    rw [cmpL] at h ⊢
    by_cases c1 : x < y
    · rw [if_pos c1] at h; omega
    · rw [if_neg c1] at h
      by_cases c2 : x > y
      · rw [if_pos (by omega)]; omega
      · rw [if_neg c2] at h
        rw [if_neg (by omega), if_neg (by omega)]
        exact cmpL_tot a b h
theorem cmpL_trans : ∀ a b c : List Int, a.length = b.length → b.length = c.length → ¬ 0 < cmpL a b → ¬ 0 < cmpL b c → ¬ 0 < cmpL a c
  | [], [], [], _, _, _, _ => by rw [cmpL]; omega
  | [], [], _ :: _, _, h, _, _ => by simp at h
  | [], _ :: _, _, h, _, _, _ => by simp at h
  | _ :: _, [], _, h, _, _, _ => by simp at h
  | _ :: _, _ :: _, [], _, h, _, _ => by simp at h
  | x :: a, y :: b, z :: c, h, h', h1, h2 => by
    rw [cmpL] at h1 h2 ⊢
    have ih := cmpL_trans a b c (by simpa using h) (by simpa using h')
    by_cases c1 : x < y
    · by_cases c2 : y < z
      · rw [if_pos (by omega)]; omega
      · rw [if_neg c2] at h2
        by_cases c3 : y > z
        · rw [if_pos c3] at h2; omega
        · rw [if_pos (by omega)]; omega
    · rw [if_neg c1] at h1
      by_cases c2 : x > y
      · rw [if_pos c2] at h1; omega
      · rw [if_neg c2] at h1
        by_cases c3 : y < z
        · rw [if_pos (by omega)]; omega
        · rw [if_neg c3] at h2
          by_cases c4 : y > z
          · rw [if_pos c4] at h2; omega
          · rw [if_neg c4] at h2
            rw [if_neg (by omega), if_neg (by omega)]
            exact ih h1 h2
theorem fold_least (m : Nat) : ∀ (l : List (List Int)) (b : List Int), b.length = m → (∀ c ∈ l, c.length = m) → ∃ r, l.foldl minO (some b) = some r ∧ r ∈ b :: l ∧ ∀ c ∈ b :: l, ¬ 0 < cmpL r c
  | [], b, hb, _ => ⟨b, rfl, List.mem_cons_self, fun c hc => by rw [List.mem_singleton.1 hc, cmpL_self]; omega⟩
  | c :: l, b, hb, hl => by
    have hc := hl c List.mem_cons_self
    have hl' : ∀ x ∈ l, x.length = m := fun x hx => hl x (List.mem_cons_of_mem _ hx)
    rw [List.foldl_cons]
    by_cases h : 0 < cmpL c b
    · rw [show minO (some b) c = some b from if_pos h]
      obtain ⟨r, e, hr, hm⟩ := fold_least m l b hb hl'
      have hrl : r.length = m := (List.mem_cons.1 hr).elim (fun e => by rw [e, hb]) (fun e => hl' _ e)
      refine ⟨r, e, ?_, fun x hx => ?_⟩
      · rcases List.mem_cons.1 hr with e | e
        · rw [e]; exact List.mem_cons_self
        · exact List.mem_cons_of_mem _ (List.mem_cons_of_mem _ e)
      · rcases List.mem_cons.1 hx with rfl | hx
        · exact hm _ List.mem_cons_self
        · rcases List.mem_cons.1 hx with rfl | hx
          · exact cmpL_trans _ b _ (by omega) (by omega) (hm b List.mem_cons_self) (cmpL_tot _ _ h)
          · exact hm _ (List.mem_cons_of_mem _ hx)
    · rw [show minO (some b) c = some c from if_neg h]
      obtain ⟨r, e, hr, hm⟩ := fold_least m l c hc hl'
      have hrl : r.length = m := (List.mem_cons.1 hr).elim (fun e => by rw [e, hc]) (fun e => hl' _ e)
      refine ⟨r, e, List.mem_cons_of_mem _ hr, fun x hx => ?_⟩
      rcases List.mem_cons.1 hx with rfl | hx
      · exact cmpL_trans _ c _ (by omega) (by omega) (hm c List.mem_cons_self) h
      · exact hm _ hx
theorem full {l : List Nat} {n : Nat} (hd : l.Nodup) (hl : l.length = n) (hm : ∀ y ∈ l, y < n) {x : Nat} (hx : x < n) : x ∈ l :=
  Decidable.byContradiction fun h => by
    have := nats_len (l ++ [x]) n (nats_app hd (by simpa using h)) (nats_mem hm hx)
    rw [List.length_append, List.length_singleton] at this; omega
theorem mem_orders (n : Nat) : ∀ (d : Nat) (order rest : List Nat), rest.length = d → (order ++ rest).Nodup → (∀ x ∈ rest, x < n) → order ++ rest ∈ ordersW n d order
  | 0, order, rest, hl, _, _ => by rw [List.length_eq_zero_iff] at hl; subst hl; rw [ordersW, List.append_nil]; exact List.mem_singleton.2 rfl
  | d + 1, order, [], hl, _, _ => by simp at hl
  | d + 1, order, i :: rest, hl, hd, hm => by
    rw [ordersW, List.mem_flatMap]
    refine ⟨i, List.mem_range.2 (hm i List.mem_cons_self), ?_⟩
    have hn : ¬ order.contains i = true := by
      intro h
      rw [List.nodup_append] at hd
      exact hd.2.2 i (List.contains_iff_mem.1 h) i List.mem_cons_self rfl
    rw [if_neg hn]
    have := mem_orders n d (order ++ [i]) rest (by simpa using hl) (by rw [List.append_assoc]; exact hd) (fun x hx => hm x (List.mem_cons_of_mem _ hx))
    rw [List.append_assoc] at this
    exact this
theorem orders_pre (n : Nat) : ∀ (d : Nat) (order o : List Nat), o ∈ ordersW n d order → ∃ t, o = order ++ t
  | 0, order, o, h => ⟨[], by rw [ordersW, List.mem_singleton] at h; rw [h, List.append_nil]⟩
  | d + 1, order, o, h => by
    rw [ordersW, List.mem_flatMap] at h
    obtain ⟨i, hi, ho⟩ := h
    split at ho
    · exact absurd ho (by simp)
    · obtain ⟨t, e⟩ := orders_pre n d _ o ho
      exact ⟨i :: t, by rw [e, List.append_assoc]; rfl⟩
theorem entsOf_eq (X Y : Nat → Nat → Bool) (a b : Nat) : ∀ l l' : List Nat, l.length = l'.length → (entsOf X a l = entsOf Y b l' ↔ ∀ k, k < l.length → X a (l.getD k 0) = Y b (l'.getD k 0))
  | [], [], _ => ⟨fun _ k hk => absurd hk (by simp), fun _ => rfl⟩
  | [], _ :: _, h => by simp at h
  | _ :: _, [], h => by simp at h
  | x :: l, y :: l', h => by
    have ih := entsOf_eq X Y a b l l' (by simpa using h)
    have e : ∀ (Z : Nat → Nat → Bool) (c z : Nat) (t : List Nat), entsOf Z c (z :: t) = (if Z c z = true then 1 else 0) :: entsOf Z c t := fun _ _ _ _ => rfl
    rw [e, e, List.cons_eq_cons, ih]
    constructor
    · rintro ⟨h1, h2⟩ k hk
      cases k with
      | zero =>
        show X a x = Y b y
        cases hx : X a x <;> cases hy : Y b y <;> rw [hx, hy] at h1 <;> simp at h1 ⊢
      | succ k => exact h2 k (by simpa using hk)
    · intro g
      refine ⟨?_, fun k hk => g (k + 1) (by simpa using hk)⟩
      have : X a x = Y b y := g 0 (by simp)
      rw [this]
theorem codeOf_eq (X Y : Nat → Nat → Bool) (o o' : List Nat) (hl : o.length = o'.length) : codeOf X o = codeOf Y o' ↔ ∀ i k, k < i → i < o.length → X (o.getD i 0) (o.getD k 0) = Y (o'.getD i 0) (o'.getD k 0) := by
  have g : ∀ n, n ≤ o.length → (codeOf X (o.take n) = codeOf Y (o'.take n) ↔ ∀ i k, k < i → i < n → X (o.getD i 0) (o.getD k 0) = Y (o'.getD i 0) (o'.getD k 0)) := by
    intro n
    induction n with
    | zero => intro _; exact ⟨fun _ i k _ hi => absurd hi (by omega), fun _ => by rw [List.take_zero, List.take_zero]; rfl⟩
    | succ n ih =>
      intro hn
      have ih := ih (by omega)
      have gt : ∀ (l : List Nat) (k : Nat), k < n → (l.take n).getD k 0 = l.getD k 0 := fun l k hk => by
        rw [List.getD_eq_getElem?_getD, List.getElem?_take, if_pos hk, ← List.getD_eq_getElem?_getD]
      have lt : (o.take n).length = n := by rw [List.length_take]; omega
      have lt' : (o'.take n).length = n := by rw [List.length_take]; omega
      have he := entsOf_eq X Y (o.getD n 0) (o'.getD n 0) (o.take n) (o'.take n) (by omega)
      rw [take_codeF (by omega), take_codeF (by omega)]
      constructor
      · intro h
        obtain ⟨h1, h2⟩ := List.append_inj h (by rw [codeOf_len, codeOf_len, lt, lt'])
        intro i k hk hi
        by_cases e : i = n
        · subst e
          have := he.1 h2 k (by omega)
          rw [gt _ _ hk, gt _ _ hk] at this
          exact this
        · exact ih.1 h1 i k hk (by omega)
      · intro h
        rw [ih.2 (fun i k hk hi => h i k hk (by omega)), he.2 (fun k hk => by rw [gt _ _ (by omega), gt _ _ (by omega)]; exact h n k (by omega) (by omega))]
  have := g o.length (Nat.le_refl _)
  rw [List.take_length, hl, List.take_length] at this
  rw [hl]; exact this
theorem range_getD {n i : Nat} (h : i < n) : (List.range n).getD i 0 = i := by
  rw [List.getD_eq_getElem?_getD, List.getElem?_range h]; rfl
theorem map_getD {l : List Nat} {f : Nat → Nat} {i : Nat} (h : i < l.length) : (l.map f).getD i 0 = f (l.getD i 0) := by
  rw [List.getD_eq_getElem?_getD, List.getElem?_map, List.getElem?_eq_getElem h, List.getD_eq_getElem?_getD, List.getElem?_eq_getElem h]; rfl
theorem getD_memN {l : List Nat} {i : Nat} (h : i < l.length) : l.getD i 0 ∈ l := by
  rw [List.getD_eq_getElem?_getD, List.getElem?_eq_getElem h]; exact List.getElem_mem _
theorem getD_inj {l : List Nat} (hd : l.Nodup) {s t : Nat} (hs : s < l.length) (ht : t < l.length) (h : l.getD s 0 = l.getD t 0) : s = t := by
  rw [List.getD_eq_getElem?_getD, List.getElem?_eq_getElem hs, List.getD_eq_getElem?_getD, List.getElem?_eq_getElem ht] at h
  exact (List.getElem_inj hd).1 h
theorem getD_idx {l : List Nat} {x : Nat} (h : x ∈ l) : l.getD (l.idxOf x) 0 = x := by
  have := List.idxOf_lt_length_of_mem h
  rw [List.getD_eq_getElem?_getD, List.getElem?_eq_getElem this]
  exact List.getElem_idxOf this
theorem nodup_map {l : List Nat} {f : Nat → Nat} (hd : l.Nodup) (h : ∀ a ∈ l, ∀ b ∈ l, f a = f b → a = b) : (l.map f).Nodup := by
  induction l with
  | nil => exact List.nodup_nil
  | cons a l ih =>
    have hn := List.nodup_cons.1 hd
    rw [List.map_cons, List.nodup_cons]
    refine ⟨fun hm => ?_, ih hn.2 (fun x hx y hy => h x (List.mem_cons_of_mem _ hx) y (List.mem_cons_of_mem _ hy))⟩
    obtain ⟨b, hb, e⟩ := List.mem_map.1 hm
    exact hn.1 ((h b (List.mem_cons_of_mem _ hb) a List.mem_cons_self e) ▸ hb)
/-- An order of all chords. -/
structure Ord (n : Nat) (o : List Nat) : Prop where
  len : o.length = n
  nd : o.Nodup
  lt : ∀ x ∈ o, x < n
theorem ord_iff {n : Nat} {o : List Nat} : o ∈ ordersW n n [] ↔ Ord n o := by
  constructor
  · intro h
    have := orders_mem n n [] o List.nodup_nil (fun x hx => absurd hx (by simp)) h
    exact ⟨by simpa using this.1, this.2.1, this.2.2⟩
  · intro h
    exact mem_orders n n [] o h.len h.nd h.lt
theorem Ord.range (n : Nat) : Ord n (List.range n) := ⟨List.length_range, List.nodup_range, fun x hx => List.mem_range.1 hx⟩
theorem Ord.get {n : Nat} {o : List Nat} (h : Ord n o) {i : Nat} (hi : i < n) : o.getD i 0 < n := h.lt _ (getD_memN (by rw [h.len]; exact hi))
/-- One order behind another. -/
theorem Ord.comp {n : Nat} {o p : List Nat} (ho : Ord n o) (hp : Ord n p) : Ord n (p.map fun x => o.getD x 0) := by
  refine ⟨by rw [List.length_map, hp.len], nodup_map hp.nd (fun a ha b hb e => getD_inj ho.nd (by rw [ho.len]; exact hp.lt _ ha) (by rw [ho.len]; exact hp.lt _ hb) e), fun x hx => ?_⟩
  obtain ⟨y, hy, rfl⟩ := List.mem_map.1 hx
  exact ho.get (hp.lt _ hy)
theorem Ord.inv {n : Nat} {o : List Nat} (ho : Ord n o) : Ord n ((List.range n).map fun x => o.idxOf x) := by
  have hm : ∀ x, x < n → x ∈ o := fun x hx => full ho.nd ho.len ho.lt hx
  refine ⟨by rw [List.length_map, List.length_range], nodup_map List.nodup_range (fun a ha b hb e => ?_), fun x hx => ?_⟩
  · rw [← getD_idx (hm a (List.mem_range.1 ha)), e, getD_idx (hm b (List.mem_range.1 hb))]
  · obtain ⟨y, hy, rfl⟩ := List.mem_map.1 hx
    have := List.idxOf_lt_length_of_mem (hm y (List.mem_range.1 hy))
    rw [ho.len] at this; exact this
theorem sim_ne {n : Nat} {X Y : Nat → Nat → Bool} (hX : ∀ i k, i < n → k < n → X i k = X k i) (hY : ∀ i k, i < n → k < n → Y i k = Y k i) {o p : List Nat} (ho : Ord n o) (hp : Ord n p) (h : codeOf X o = codeOf Y p) {i k : Nat} (hi : i < n) (hk : k < n) (hne : i ≠ k) :
    X (o.getD i 0) (o.getD k 0) = Y (p.getD i 0) (p.getD k 0) := by
  have hg := (codeOf_eq X Y o p (by rw [ho.len, hp.len])).1 h
  rcases Nat.lt_or_gt_of_ne hne with c | c
  · rw [hX _ _ (ho.get hi) (ho.get hk), hY _ _ (hp.get hi) (hp.get hk)]
    exact hg k i c (by rw [ho.len]; exact hk)
  · exact hg i k c (by rw [ho.len]; exact hi)
/-- A renaming of the one carries its orders over. -/
theorem carry {n : Nat} {X Y : Nat → Nat → Bool} (hX : ∀ i k, i < n → k < n → X i k = X k i) (hY : ∀ i k, i < n → k < n → Y i k = Y k i) {o q : List Nat} (ho : Ord n o) (hq : Ord n q) (h : codeOf X (List.range n) = codeOf Y o) :
    codeOf X q = codeOf Y (q.map fun x => o.getD x 0) := by
  refine (codeOf_eq X Y q _ (by rw [List.length_map])).2 fun i k hk hi => ?_
  rw [hq.len] at hi
  have hqi := hq.get hi
  have hqk := hq.get (i := k) (by omega)
  rw [map_getD (by rw [hq.len]; exact hi), map_getD (by rw [hq.len]; omega)]
  have := sim_ne hX hY (Ord.range n) ho h hqi hqk (fun e => by
    have := getD_inj hq.nd (by rw [hq.len]; exact hi) (by rw [hq.len]; omega) e
    omega)
  rw [range_getD hqi, range_getD hqk] at this
  exact this
/-- The least code. -/
theorem codeV_least (w : List Int) (n : Nat) (hn : n = w.length / 2) : (∃ o, Ord n o ∧ codeV w = codeOf (crossB w) o) ∧ ∀ o, Ord n o → ¬ 0 < cmpL (codeV w) (codeOf (crossB w) o) := by
  rw [codeV_eq, ← hn]
  have hr : codeOf (crossB w) (List.range n) ∈ (ordersW n n []).map (codeOf (crossB w)) := List.mem_map.2 ⟨_, ord_iff.2 (Ord.range n), rfl⟩
  have hl : ∀ c ∈ (ordersW n n []).map (codeOf (crossB w)), c.length = tri n := fun c hc => by
    obtain ⟨o, ho, rfl⟩ := List.mem_map.1 hc
    rw [codeOf_len, (ord_iff.1 ho).len]
  have hm : ∀ c, c ∈ (ordersW n n []).map (codeOf (crossB w)) ↔ ∃ o, Ord n o ∧ c = codeOf (crossB w) o := fun c => by
    rw [List.mem_map]
    exact ⟨fun ⟨o, ho, e⟩ => ⟨o, ord_iff.1 ho, e.symm⟩, fun ⟨o, ho, e⟩ => ⟨o, ord_iff.2 ho, e.symm⟩⟩
  generalize (ordersW n n []).map (codeOf (crossB w)) = L at *
  cases L with
  | nil => exact absurd hr (by simp)
  | cons b L =>
    obtain ⟨r, e, h1, h2⟩ := fold_least (tri n) L b (hl b List.mem_cons_self) (fun c hc => hl c (List.mem_cons_of_mem _ hc))
    rw [List.foldl_cons, show minO none b = some b from rfl, e, Option.getD_some]
    exact ⟨(hm r).1 h1, fun o ho => h2 _ ((hm _).2 ⟨o, ho, rfl⟩)⟩
theorem iso_iff (a b : List Int) (n : Nat) (ha : n = a.length / 2) (hb : n = b.length / 2) (hX : ∀ i k, i < n → k < n → crossB a i k = crossB a k i) (hY : ∀ i k, i < n → k < n → crossB b i k = crossB b k i) :
    (∃ o, Ord n o ∧ codeOf (crossB a) (List.range n) = codeOf (crossB b) o) ↔ codeV a = codeV b := by
  obtain ⟨⟨oa, hoa, ea⟩, la⟩ := codeV_least a n ha
  obtain ⟨⟨ob, hob, eb⟩, lb⟩ := codeV_least b n hb
  constructor
  · rintro ⟨o, ho, h⟩
    refine cmpL_anti _ _ (by rw [ea, eb, codeOf_len, codeOf_len, hoa.len, hob.len]) ?_ ?_
    · have hi := ho.inv
      have hp := hi.comp hob
      have := carry hX hY ho hp h
      rw [show ((ob.map fun x => ((List.range n).map fun x => o.idxOf x).getD x 0).map fun x => o.getD x 0) = ob from ?_] at this
      · rw [eb, ← this]; exact la _ hp
      · rw [List.map_map]
        refine (List.map_congr_left (g := id) fun x hx => ?_).trans (List.map_id _)
        have hxn := hob.lt x hx
        show o.getD (((List.range n).map fun x => o.idxOf x).getD x 0) 0 = x
        rw [map_getD (by rw [List.length_range]; exact hxn), range_getD hxn]
        exact getD_idx (full ho.nd ho.len ho.lt hxn)
    · have := carry hX hY ho hoa h
      rw [ea, this]; exact lb _ (ho.comp hoa)
  · intro h
    rw [ea, eb] at h
    have hi := hoa.inv
    refine ⟨((List.range n).map fun x => oa.idxOf x).map fun x => ob.getD x 0, hob.comp hi, ?_⟩
    refine (codeOf_eq _ _ _ _ (by rw [List.length_map, List.length_map])).2 fun i k hk hin => ?_
    rw [List.length_range] at hin
    have hkn : k < n := by omega
    have gi : ∀ x, x < n → oa.idxOf x < n := fun x hx => by
      have := List.idxOf_lt_length_of_mem (full hoa.nd hoa.len hoa.lt hx)
      rw [hoa.len] at this; exact this
    have e : ∀ x, x < n → (((List.range n).map fun x => oa.idxOf x).map fun x => ob.getD x 0).getD x 0 = ob.getD (oa.idxOf x) 0 := fun x hx => by
      rw [map_getD (by rw [List.length_map, List.length_range]; exact hx), map_getD (by rw [List.length_range]; exact hx), range_getD hx]
    rw [e i hin, e k hkn, range_getD hin, range_getD hkn]
    have := sim_ne hX hY hoa hob h (gi i hin) (gi k hkn) (fun e => by
      have h1 := getD_idx (full hoa.nd hoa.len hoa.lt hin)
      rw [e, getD_idx (full hoa.nd hoa.len hoa.lt hkn)] at h1
      omega)
    rw [getD_idx (full hoa.nd hoa.len hoa.lt hin), getD_idx (full hoa.nd hoa.len hoa.lt hkn)] at this
    exact this
end Go.Proofs.Ytfijnlbkflmkbaa.Pure
