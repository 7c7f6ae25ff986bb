/- Plain laws on webs: where edges stand, parts told by labels, and that relaxing all edges as often as there are nodes, in whatever order, comes to these labels. -/
import Derived.Test.YtnlhhbnoccobmaaPureMem
namespace Go.Proofs.Ytnlhhbnoccobmaa.Web
set_option linter.unusedVariables false
set_option linter.unusedSimpArgs false

/-- The edges with the legs, and behind them the forks, in which they stand. -/
def inc (legs : List Int) (forks : List (List Int)) : List (Int × Nat) := legs.zipIdx ++ (forks.zipIdx legs.length).flatMap fun p => p.1.map fun e => (e, p.2)
def ends (I : List (Int × Nat)) (e : Int) : List Nat := (I.filter fun p => p.1 == e).map fun p => p.2
theorem mem_ends {I : List (Int × Nat)} {e : Int} {u : Nat} : u ∈ ends I e ↔ (e, u) ∈ I := by
  unfold ends
  rw [List.mem_map]
  constructor
  · rintro ⟨p, hp, rfl⟩
    obtain ⟨h1, h2⟩ := List.mem_filter.1 hp
    rw [← eq_of_beq h2]; exact h1
  · exact fun h => ⟨_, List.mem_filter.2 ⟨h, by simp⟩, rfl⟩
def J (I : List (Int × Nat)) (u v : Nat) : Prop := ∃ e, (e, u) ∈ I ∧ (e, v) ∈ I
theorem J.symm {I : List (Int × Nat)} {u v : Nat} (h : J I u v) : J I v u := by obtain ⟨e, a, b⟩ := h; exact ⟨e, b, a⟩
inductive Reach (I : List (Int × Nat)) : Nat → Nat → Prop
  | refl (v : Nat) : Reach I v v
  | step {u v x : Nat} : Reach I u v → J I v x → Reach I u x
theorem Reach.trans {I : List (Int × Nat)} {a b c : Nat} (h : Reach I a b) (g : Reach I b c) : Reach I a c := by
  induction g with
  | refl => exact h
  | step _ j ih => exact .step ih j
theorem Reach.symm {I : List (Int × Nat)} {a b : Nat} (h : Reach I a b) : Reach I b a := by
  induction h with
  | refl => exact .refl _
  | step _ j ih => exact (Reach.step (.refl _) j.symm).trans ih
theorem least (P : Nat → Prop) : ∀ n, P n → ∃ m, P m ∧ ∀ k, P k → m ≤ k := by
  intro n
  induction n using Nat.strongRecOn with
  | ind n ih =>
    intro h
    by_cases g : ∃ k, k < n ∧ P k
    · obtain ⟨k, hk, hp⟩ := g; exact ih k hk hp
    · exact ⟨n, h, fun k hk => Nat.le_of_not_lt fun hlt => g ⟨k, hlt, hk⟩⟩
/-- The first node of a node's part. -/
noncomputable def lbl (I : List (Int × Nat)) (v : Nat) : Nat := Classical.choose (least (Reach I v) v (.refl v))
theorem lbl_reach (I : List (Int × Nat)) (v : Nat) : Reach I v (lbl I v) := (Classical.choose_spec (least (Reach I v) v (.refl v))).1
theorem lbl_least {I : List (Int × Nat)} {v k : Nat} (h : Reach I v k) : lbl I v ≤ k := (Classical.choose_spec (least (Reach I v) v (.refl v))).2 k h
theorem lbl_le (I : List (Int × Nat)) (v : Nat) : lbl I v ≤ v := lbl_least (.refl v)
theorem lbl_same {I : List (Int × Nat)} {u v : Nat} (h : Reach I u v) : lbl I u = lbl I v :=
  Nat.le_antisymm (lbl_least (h.trans (lbl_reach I v))) (lbl_least (h.symm.trans (lbl_reach I u)))
theorem lbl_one {I : List (Int × Nat)} {u v : Nat} (h : J I u v) : lbl I u = lbl I v := lbl_same (.step (.refl _) h)
theorem lbl_idem (I : List (Int × Nat)) (v : Nat) : lbl I (lbl I v) = lbl I v := (lbl_same (lbl_reach I v)).symm
theorem lbl_two {I : List (Int × Nat)} {S : Nat → Prop} (hS : ∀ u v, J I u v → S u → S v) {v : Nat} (h : S v) : S (lbl I v) := by
  have key : ∀ {a b}, Reach I a b → S a → S b := by
    intro a b hr
    induction hr with
    | refl => exact fun h => h
    | step _ j ih => exact fun h => hS _ _ j (ih h)
  exact key (lbl_reach I v) h
/-! ### numbers that lie in the parts -/
def at_ (out : List Nat) (v : Nat) : Nat := out.getD v 0
/-- Each node's number is a node of its part, no later than the node. -/
structure Fits (I : List (Int × Nat)) (n : Nat) (out : List Nat) : Prop where
  len : out.length = n
  le : ∀ v, v < n → at_ out v ≤ v
  cls : ∀ v, v < n → lbl I (at_ out v) = lbl I v
theorem Fits.ge {I : List (Int × Nat)} {n : Nat} {out : List Nat} (h : Fits I n out) {v : Nat} (hv : v < n) : lbl I v ≤ at_ out v := by
  rw [← h.cls v hv]; exact lbl_le _ _
theorem at_set {out : List Nat} {i v x : Nat} (hi : i < out.length) : at_ (out.set i x) v = if v = i then x else at_ out v := by
  unfold at_
  rw [List.getD_eq_getElem?_getD, List.getElem?_set]
  by_cases e : i = v
  · rw [if_pos e, if_pos (by omega), if_pos e.symm]; rfl
  · rw [if_neg e, if_neg (Ne.symm e), ← List.getD_eq_getElem?_getD]
def low2 (out : List Nat) (a b : Nat) : Nat := min (at_ out a) (at_ out b)
def relax2 (out : List Nat) (a b : Nat) : List Nat := (out.set a (low2 out a b)).set b (low2 out a b)
theorem relax2_at {out : List Nat} {a b v : Nat} (ha : a < out.length) (hb : b < out.length) : at_ (relax2 out a b) v = if v = a ∨ v = b then low2 out a b else at_ out v := by
  unfold relax2
  rw [at_set (by rw [List.length_set]; exact hb), at_set ha]
  by_cases e : v = b
  · rw [if_pos e, if_pos (.inr e)]
  · rw [if_neg e]
    by_cases g : v = a
    · rw [if_pos g, if_pos (.inl g)]
    · rw [if_neg g, if_neg (by rintro (h | h); exact g h; exact e h)]
theorem Fits.relax {I : List (Int × Nat)} {n : Nat} {out : List Nat} (h : Fits I n out) {a b : Nat} (ha : a < n) (hb : b < n) (hj : J I a b) : Fits I n (relax2 out a b) := by
  have hl := h.len
  have e := lbl_one hj
  have h1 := h.le a ha
  have h2 := h.le b hb
  have c1 := h.cls a ha
  have c2 := h.cls b hb
  have g1 := h.ge ha
  have g2 := h.ge hb
  refine ⟨by unfold relax2; rw [List.length_set, List.length_set]; exact hl, fun v hv => ?_, fun v hv => ?_⟩
  · rw [relax2_at (by omega) (by omega)]
    split
    · rename_i g; unfold low2
      rcases g with g | g <;> subst g
      · omega
      · omega
    · exact h.le v hv
  · rw [relax2_at (by omega) (by omega)]
    split
    · rename_i g
      have : lbl I (low2 out a b) = lbl I a := by
        unfold low2
        rcases Nat.le_total (at_ out a) (at_ out b) with q | q
        · rw [Nat.min_eq_left q]; exact c1
        · rw [Nat.min_eq_right q, c2]; exact e.symm
      rcases g with g | g <;> subst g
      · exact this
      · rw [this]; exact e
    · exact h.cls v hv
theorem relax2_le {I : List (Int × Nat)} {n : Nat} {out : List Nat} (h : Fits I n out) {a b v : Nat} (ha : a < n) (hb : b < n) : at_ (relax2 out a b) v ≤ at_ out v := by
  have hl := h.len
  rw [relax2_at (by omega) (by omega)]
  split
  · rename_i g; unfold low2
    rcases g with g | g <;> subst g
    · exact Nat.min_le_left _ _
    · exact Nat.min_le_right _ _
  · exact Nat.le_refl _
def Set_ (I : List (Int × Nat)) (out : List Nat) (v : Nat) : Prop := at_ out v = lbl I v
theorem Set_.keep {I : List (Int × Nat)} {n : Nat} {out : List Nat} (h : Fits I n out) {a b v : Nat} (ha : a < n) (hb : b < n) (hj : J I a b) (hv : v < n) (hs : Set_ I out v) : Set_ I (relax2 out a b) v := by
  have h1 := relax2_le h ha hb (v := v)
  have h2 := (h.relax ha hb hj).ge hv
  unfold Set_ at *
  omega
theorem Set_.both {I : List (Int × Nat)} {n : Nat} {out : List Nat} (h : Fits I n out) {a b : Nat} (ha : a < n) (hb : b < n) (hj : J I a b) (hs : Set_ I out a ∨ Set_ I out b) : Set_ I (relax2 out a b) a ∧ Set_ I (relax2 out a b) b := by
  have hl := h.len
  have e := lbl_one hj
  have g1 := h.ge ha
  have g2 := h.ge hb
  unfold Set_ at *
  rw [relax2_at (by omega) (by omega), relax2_at (by omega) (by omega), if_pos (.inl rfl), if_pos (.inr rfl)]
  unfold low2
  rcases hs with hs | hs <;> omega
/-! ### a round over all edges, in whatever order -/
def relax (I : List (Int × Nat)) (out : List Nat) (e : Int) : List Nat := relax2 out ((ends I e).getD 0 0) ((ends I e).getD 1 0)
structure Two (I : List (Int × Nat)) (n : Nat) : Prop where
  two : ∀ e u, (e, u) ∈ I → (ends I e).length = 2
  lt : ∀ e u, (e, u) ∈ I → u < n
theorem Two.at_ {I : List (Int × Nat)} {n : Nat} (h : Two I n) {e : Int} {u : Nat} (he : (e, u) ∈ I) : ∃ a b, ends I e = [a, b] ∧ a < n ∧ b < n ∧ J I a b ∧ (u = a ∨ u = b) := by
  have h2 := h.two e u he
  match hh : ends I e, h2 with
  | [a, b], _ =>
    have ha : (e, a) ∈ I := mem_ends.1 (by rw [hh]; simp)
    have hb : (e, b) ∈ I := mem_ends.1 (by rw [hh]; simp)
    have hu : u ∈ ends I e := mem_ends.2 he
    rw [hh] at hu
    exact ⟨a, b, rfl, h.lt e a ha, h.lt e b hb, ⟨e, ha, hb⟩, by simpa using hu⟩
theorem fold_keep {I : List (Int × Nat)} {n : Nat} (h2 : Two I n) : ∀ (L : List Int) (out : List Nat), (∀ e ∈ L, ∃ u, (e, u) ∈ I) → Fits I n out → Fits I n (L.foldl (relax I) out) ∧ ∀ v, v < n → Set_ I out v → Set_ I (L.foldl (relax I) out) v
  | [], out, _, h => ⟨h, fun _ _ hs => hs⟩
  | e :: L, out, hL, h => by
    obtain ⟨u, hu⟩ := hL e List.mem_cons_self
    obtain ⟨a, b, he, ha, hb, hj, _⟩ := h2.at_ hu
    have hr : relax I out e = relax2 out a b := by unfold relax; rw [he]; rfl
    rw [List.foldl_cons, hr]
    have ih := fold_keep h2 L (relax2 out a b) (fun e he => hL e (List.mem_cons_of_mem _ he)) (h.relax ha hb hj)
    exact ⟨ih.1, fun v hv hs => ih.2 v hv (hs.keep h ha hb hj hv)⟩
theorem fold_step {I : List (Int × Nat)} {n : Nat} (h2 : Two I n) {u v : Nat} (hu : u < n) {e : Int} (hue : (e, u) ∈ I) (hve : (e, v) ∈ I) : ∀ (L : List Int) (out : List Nat), (∀ e ∈ L, ∃ u, (e, u) ∈ I) → Fits I n out → e ∈ L → Set_ I out u → Set_ I (L.foldl (relax I) out) v
  | [], _, _, _, h, _ => absurd h (by simp)
  | c :: L, out, hL, h, hm, hs => by
    obtain ⟨z, hz⟩ := hL c List.mem_cons_self
    obtain ⟨a, b, he, ha, hb, hj, _⟩ := h2.at_ hz
    have hr : relax I out c = relax2 out a b := by unfold relax; rw [he]; rfl
    rw [List.foldl_cons, hr]
    by_cases g : e = c
    · subst g
      have h1 : u ∈ ends I e := mem_ends.2 hue
      have h3 : v ∈ ends I e := mem_ends.2 hve
      rw [he] at h1 h3
      have hb2 := Set_.both h ha hb hj (by simp at h1; rcases h1 with q | q <;> subst q; exact .inl hs; exact .inr hs)
      refine (fold_keep h2 L _ (fun e he => hL e (List.mem_cons_of_mem _ he)) (h.relax ha hb hj)).2 v (h2.lt e v hve) ?_
      simp at h3
      rcases h3 with q | q <;> subst q
      · exact hb2.1
      · exact hb2.2
    · exact fold_step h2 hu hue hve L _ (fun e he => hL e (List.mem_cons_of_mem _ he)) (h.relax ha hb hj) (by
        rcases List.mem_cons.1 hm with q | q
        · exact absurd q g
        · exact q) (hs.keep h ha hb hj hu)
def Round (I : List (Int × Nat)) (out out' : List Nat) : Prop := ∃ L : List Int, (∀ e, e ∈ L ↔ ∃ u, (e, u) ∈ I) ∧ out' = L.foldl (relax I) out
inductive Rounds (I : List (Int × Nat)) (n : Nat) : Nat → List Nat → Prop
  | zero : Rounds I n 0 (List.range n)
  | succ {t : Nat} {out out' : List Nat} : Rounds I n t out → Round I out out' → Rounds I n (t + 1) out'
def cnt (p : Nat → Bool) : Nat → Nat
  | 0 => 0
  | n + 1 => cnt p n + if p n = true then 1 else 0
theorem cnt_le (p : Nat → Bool) : ∀ n, cnt p n ≤ n
  | 0 => Nat.le_refl _
  | n + 1 => by have := cnt_le p n; rw [cnt]; split <;> omega
theorem cnt_mono {p q : Nat → Bool} : ∀ n, (∀ v, v < n → p v = true → q v = true) → cnt p n ≤ cnt q n
  | 0, _ => Nat.le_refl _
  | n + 1, h => by
    have := cnt_mono n (fun v hv => h v (by omega))
    rw [cnt, cnt]
    by_cases g : p n = true
    · rw [if_pos g, if_pos (h n (by omega) g)]; omega
    · rw [if_neg g]; split <;> omega
theorem cnt_lt {p q : Nat → Bool} {v : Nat} (hp : p v = false) (hq : q v = true) : ∀ n, v < n → (∀ v, v < n → p v = true → q v = true) → cnt p n < cnt q n
  | 0, h, _ => absurd h (by omega)
  | n + 1, hv, h => by
    rw [cnt, cnt]
    by_cases e : v = n
    · subst e
      have := cnt_mono v (fun x hx => h x (by omega))
      rw [hp, hq]; simp; omega
    · have := cnt_lt hp hq n (by omega) (fun x hx => h x (by omega))
      by_cases g : p n = true
      · rw [if_pos g, if_pos (h n (by omega) g)]; omega
      · rw [if_neg g]; split <;> omega
theorem cnt_pos {p : Nat → Bool} {v : Nat} (hp : p v = true) : ∀ n, v < n → 1 ≤ cnt p n := by
  intro n hv
  have := cnt_lt (p := fun _ => false) (q := p) (v := v) rfl hp n hv (fun _ _ h => absurd h (by simp))
  omega
theorem range_fits (I : List (Int × Nat)) (n : Nat) : Fits I n (List.range n) := by
  have h : ∀ v, v < n → at_ (List.range n) v = v := fun v hv => by unfold at_; rw [List.getD_eq_getElem?_getD, List.getElem?_range hv]; rfl
  exact ⟨by simp, fun v hv => by rw [h v hv]; exact Nat.le_refl _, fun v hv => by rw [h v hv]⟩
theorem rounds_fits {I : List (Int × Nat)} {n : Nat} (h2 : Two I n) {t : Nat} {out : List Nat} (h : Rounds I n t out) : Fits I n out := by
  induction h with
  | zero => exact range_fits I n
  | succ _ hr ih =>
    obtain ⟨L, hL, rfl⟩ := hr
    exact (fold_keep h2 L _ (fun e he => (hL e).1 he) ih).1
theorem rounds_count {I : List (Int × Nat)} {n : Nat} (h2 : Two I n) {t : Nat} {out : List Nat} (h : Rounds I n t out) (m : Nat) (hm : m < n) (hmm : lbl I m = m) :
    (∀ v, v < n → lbl I v = m → Set_ I out v) ∨ t + 1 ≤ cnt (fun v => decide (lbl I v = m ∧ at_ out v = lbl I v)) n := by
  induction h with
  | zero =>
    refine .inr (cnt_pos (v := m) (decide_eq_true ⟨hmm, ?_⟩) n hm)
    have h := range_fits I n
    have := h.le m hm
    have := h.ge hm
    omega
  | @succ t out out' hr hro ih =>
    have hF := rounds_fits h2 hr
    obtain ⟨L, hL, rfl⟩ := hro
    have hk := fold_keep h2 L out (fun e he => (hL e).1 he) hF
    rcases ih with ih | ih
    · exact .inl fun v hv hvm => hk.2 v hv (ih v hv hvm)
    · by_cases hall : ∀ v, v < n → lbl I v = m → Set_ I out v
      · exact .inl fun v hv hvm => hk.2 v hv (hall v hv hvm)
      · refine .inr ?_
        -- an edge leaves what is settled
        have hcross : ∃ u v, J I u v ∧ u < n ∧ v < n ∧ lbl I u = m ∧ Set_ I out u ∧ ¬ Set_ I out v := by
          refine Classical.byContradiction fun hno => hall fun v hv hvm => Classical.byContradiction fun hs => ?_
          have hcl : ∀ u w, J I u w → ¬ (lbl I u = m ∧ Set_ I out u) → ¬ (lbl I w = m ∧ Set_ I out w) := by
            intro u w hj hnu hw
            obtain ⟨e, h1, h3⟩ := hj
            refine hno ⟨w, u, ⟨e, h3, h1⟩, h2.lt e w h3, h2.lt e u h1, hw.1, hw.2, fun hsu => hnu ⟨?_, hsu⟩⟩
            rw [lbl_one ⟨e, h1, h3⟩]; exact hw.1
          have := lbl_two hcl (v := v) (fun h => hs h.2)
          rw [hvm] at this
          refine this ⟨hmm, ?_⟩
          have h3 := hF.le m hm
          have h4 := hF.ge hm
          unfold Set_; omega
        obtain ⟨u, v, ⟨e, hue, hve⟩, hu, hv, hum, hsu, hsv⟩ := hcross
        have hsv2 := fold_step h2 hu hue hve L out (fun e he => (hL e).1 he) hF ((hL e).2 ⟨u, hue⟩) hsu
        have hvm : lbl I v = m := by rw [← hum]; exact (lbl_one ⟨e, hue, hve⟩).symm
        have := cnt_lt (p := fun v => decide (lbl I v = m ∧ at_ out v = lbl I v)) (q := fun v => decide (lbl I v = m ∧ at_ (L.foldl (relax I) out) v = lbl I v)) (v := v) (decide_eq_false fun h => hsv h.2) (decide_eq_true ⟨hvm, hsv2⟩) n hv (fun x hx hp => by
          have hp := of_decide_eq_true hp
          exact decide_eq_true ⟨hp.1, hk.2 x hx hp.2⟩)
        omega
theorem fits_eq {I : List (Int × Nat)} {n : Nat} {out : List Nat} (h : Fits I n out) (hs : ∀ v, v < n → Set_ I out v) : out = (List.range n).map (lbl I) := by
  apply List.ext_getElem
  · rw [h.len]; simp
  · intro v h1 h2
    have hv : v < n := by rw [← h.len]; exact h1
    have := hs v hv
    unfold Set_ at_ at this
    rw [List.getD_eq_getElem?_getD, List.getElem?_eq_getElem h1] at this
    simpa using this
/-- After as many rounds as there are nodes each node bears its label. -/
theorem rounds_lbl {I : List (Int × Nat)} {n : Nat} (h2 : Two I n) {out : List Nat} (h : Rounds I n n out) : out = (List.range n).map (lbl I) := by
  have hF := rounds_fits h2 h
  refine fits_eq hF fun v hv => ?_
  rcases rounds_count h2 h (lbl I v) (Nat.lt_of_le_of_lt (lbl_le I v) hv) (lbl_idem I v) with hh | hh
  · exact hh v hv rfl
  · have := cnt_le (fun x => decide (lbl I x = lbl I v ∧ at_ out x = lbl I x)) n
    omega
/-- Numbers that lie in the parts and are alike over edges are the labels. -/
theorem fixed_lbl {I : List (Int × Nat)} {n : Nat} (hlt : ∀ e u, (e, u) ∈ I → u < n) {out : List Nat} (hF : Fits I n out) (hj : ∀ u v, J I u v → at_ out u = at_ out v) : out = (List.range n).map (lbl I) := by
  refine fits_eq hF fun v hv => ?_
  have := lbl_two (I := I) (S := fun x => x < n ∧ at_ out x = at_ out v) (fun a b hab h => by
    obtain ⟨e, h1, h2⟩ := hab
    exact ⟨hlt e b h2, by rw [← h.2]; exact (hj a b ⟨e, h1, h2⟩).symm⟩) (v := v) ⟨hv, rfl⟩
  have h1 := hF.le _ this.1
  have h2 := hF.ge hv
  unfold Set_; omega
/-! ### webs -/
theorem mem_inc {legs : List Int} {forks : List (List Int)} {e : Int} {u : Nat} : (e, u) ∈ inc legs forks ↔ legs[u]? = some e ∨ (legs.length ≤ u ∧ ∃ f, forks[u - legs.length]? = some f ∧ e ∈ f) := by
  unfold inc
  rw [List.mem_append, List.mem_zipIdx_iff_getElem?, List.mem_flatMap]
  constructor
  · rintro (h | ⟨p, hp, he⟩)
    · exact .inl h
    · obtain ⟨e', he', hq⟩ := List.mem_map.1 he
      simp only [Prod.mk.injEq] at hq
      obtain ⟨rfl, rfl⟩ := hq
      obtain ⟨f, q⟩ := p
      have := List.mk_mem_zipIdx_iff_le_and_getElem?_sub.1 hp
      exact .inr ⟨this.1, f, this.2, he'⟩
  · rintro (h | ⟨h1, f, hf, he⟩)
    · exact .inl h
    · exact .inr ⟨(f, u), List.mk_mem_zipIdx_iff_le_and_getElem?_sub.2 ⟨h1, hf⟩, List.mem_map.2 ⟨e, he, rfl⟩⟩
theorem inc_lt {legs : List Int} {forks : List (List Int)} {e : Int} {u : Nat} (h : (e, u) ∈ inc legs forks) : u < legs.length + forks.length := by
  rcases mem_inc.1 h with h | ⟨h1, f, hf, _⟩
  · have := (List.getElem?_eq_some_iff.1 h).1; omega
  · have := (List.getElem?_eq_some_iff.1 hf).1; omega
def twiceB (legs : List Int) (forks : List (List Int)) : Bool := (inc legs forks).all fun p => decide (0 ≤ p.1 ∧ p.1 ≤ 1000) && (ends (inc legs forks) p.1).length == 2
noncomputable def rootedB (legs : List Int) (forks : List (List Int)) : Bool := (List.range (legs.length + forks.length)).all fun v => decide (lbl (inc legs forks) v < legs.length)
noncomputable def isWebB (legs : List Int) (forks : List (List Int)) : Bool := decide (legs.length + forks.length ≤ 8) && (forks.all fun f => f.length == 3) && twiceB legs forks && rootedB legs forks
theorem twice_two {legs : List Int} {forks : List (List Int)} (h : twiceB legs forks = true) : Two (inc legs forks) (legs.length + forks.length) := by
  refine ⟨fun e u he => ?_, fun e u he => inc_lt he⟩
  have := List.all_eq_true.1 h _ he
  simp only [Bool.and_eq_true, beq_iff_eq] at this
  exact this.2
end Go.Proofs.Ytnlhhbnoccobmaa.Web
