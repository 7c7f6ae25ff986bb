/- Plain laws: what MutateWord comes to on both sides. -/
import Derived.Test.YtfijnlbkflmkbaaFx112
import Derived.Test.YtfijnlbkflmkbaaFx113
import Derived.Test.YtfijnlbkflmkbaaFx114
import Derived.Test.YtfijnlbkflmkbaaPureD
import Derived.Test.YtfijnlbkflmkbaaPureShare
namespace Go.Proofs.Ytfijnlbkflmkbaa.Pure
open Go.RowKit Go.Proofs.Ytfijnlbkflmkbaa.F Go.Proofs.YtfijnlbkflmkbaaW.PrintWords Go.Proofs.YtfijnlbkflmkbaaW.PrintLast

theorem ifq {α : Type} {c : Prop} [Decidable c] {a b r : α} (h : c) (e : a = r) : (if c then a else b) = r := (if_pos h).trans e
theorem ifr {α : Type} {c : Prop} [Decidable c] {a b r : α} (h : ¬ c) (e : b = r) : (if c then a else b) = r := (if_neg h).trans e
theorem bsq {α β : Type} {x : α} {f : α → Option β} {r : Option β} (e : f x = r) : (some x).bind f = r := e
/-- A word with two arcs in other places. -/
def put2 (w : List Int) (p q r s : Nat) (x y : List Int) : List Int := w.take p ++ x ++ (w.take r).drop q ++ y ++ w.drop s
def arcOf (w : List Int) (p q : Nat) (kind : Int) : List Int := if kind > 0 then ((w.take q).drop p).reverse else (w.take q).drop p
def mutList (w : List Int) (p q r s : Nat) (kind : Int) : List Int :=
  if kind = 1 then put2 w p q r s (arcOf w p q kind) (arcOf w r s kind) else put2 w p q r s (arcOf w r s kind) (arcOf w p q kind)
theorem arcOf_len {w : List Int} (h : w.length ≤ 12) (p q : Nat) (kind : Int) : (arcOf w p q kind).length ≤ 12 := by
  unfold arcOf; split <;> simp only [List.length_reverse, List.length_drop, List.length_take] <;> omega
theorem arcOf_mem {w : List Int} {p q : Nat} {kind x : Int} (h : x ∈ arcOf w p q kind) : x ∈ w := by
  unfold arcOf at h
  split at h
  · exact List.mem_of_mem_take (List.mem_of_mem_drop (List.mem_reverse.1 h))
  · exact List.mem_of_mem_take (List.mem_of_mem_drop h)
theorem put2_len {w x y : List Int} (h : w.length ≤ 12) (hx : x.length ≤ 12) (hy : y.length ≤ 12) (p q r s : Nat) : (put2 w p q r s x y).length ≤ 60 := by
  unfold put2; simp only [List.length_append, List.length_take, List.length_drop]; omega
theorem put2_mem {w x y : List Int} {p q r s : Nat} {z : Int} (hx : ∀ z ∈ x, z ∈ w) (hy : ∀ z ∈ y, z ∈ w) (h : z ∈ put2 w p q r s x y) : z ∈ w := by
  unfold put2 at h
  simp only [List.mem_append] at h
  rcases h with (((h | h) | h) | h) | h
  · exact List.mem_of_mem_take h
  · exact hx z h
  · exact List.mem_of_mem_take (List.mem_of_mem_drop h)
  · exact hy z h
  · exact List.mem_of_mem_drop h
theorem mutList_len {w : List Int} (h : w.length ≤ 12) (p q r s : Nat) (kind : Int) : (mutList w p q r s kind).length ≤ 60 := by
  unfold mutList; split <;> exact put2_len h (arcOf_len h _ _ _) (arcOf_len h _ _ _) _ _ _ _
theorem smut_j0 (w x y : List Int) (hle : w.length ≤ 12) (hx : x.length ≤ 12) (hy : y.length ≤ 12) (p q r s : Nat) (h1 : p ≤ q) (h2 : q ≤ r) (h3 : r ≤ s) (h4 : s ≤ w.length) (kind : Int) :
    Ev (fun k => spec_l09Mutate.j0 k w p q r s kind x y) (nrm (if kind = 1 then put2 w p q r s x y else put2 w p q r s y x)) := by
  have ht : (w.take p).length ≤ 12 := by rw [List.length_take]; omega
  have hm : ((w.take r).drop q).length ≤ 12 := by rw [List.length_drop, List.length_take]; omega
  have hd : (w.drop s).length ≤ 12 := by rw [List.length_drop]; omega
  have go : ∀ x y : List Int, x.length ≤ 12 → y.length ≤ 12 → ∀ k : Nat, (if 0 ≤ (p : Int) then (if (p : Int) ≤ (w.length : Int) then ((spec_l01Own.f (w.take (p : Int).toNat)).bind fun t => (if t.length + x.length < 17592186044416 then ((some (t ++ x : List Int)).bind fun u => (if 0 ≤ (q : Int) then (if (q : Int) ≤ (r : Int) then (if (r : Int) ≤ (w.length : Int) then (if u.length + ((w.take (r : Int).toNat).drop (q : Int).toNat).length < 17592186044416 then ((some (u ++ ((w.take (r : Int).toNat).drop (q : Int).toNat) : List Int)).bind fun u2 => (if u2.length + y.length < 17592186044416 then ((some (u2 ++ y : List Int)).bind fun u3 => (if 0 ≤ (s : Int) then (if (s : Int) ≤ (w.length : Int) then (if u3.length + (w.drop (s : Int).toNat).length < 17592186044416 then ((spec_l01Normal.f k (u3 ++ (w.drop (s : Int).toNat))).bind fun v => (some v)) else (none)) else (none)) else (none))) else (none))) else (none)) else (none)) else (none)) else (none))) else (none))) else (none)) else (none)) = (spec_l01Normal.f k (put2 w p q r s x y)).bind fun v => some v := by
    intro x y hx hy k
    simp only [Int.toNat_natCast]
    refine ifq (by omega) (ifq (by omega) ?_)
    rw [own_f _ (by omega)]
    refine bsq (ifq (by omega) (bsq ?_))
    refine ifq (by omega) (ifq (by omega) (ifq (by omega) (ifq (by rw [List.length_append]; omega) (bsq ?_))))
    refine ifq (by rw [List.length_append, List.length_append]; omega) (bsq ?_)
    exact ifq (by omega) (ifq (by omega) (ifq (by rw [List.length_append, List.length_append, List.length_append]; omega) rfl))
  refine Ev_succ ?_
  simp only [spec_l09Mutate.j0]
  by_cases e : kind = 1
  · rw [if_pos e]
    refine Ev.congr (fun k => ifq e (go x y hx hy k)) ?_
    exact Ev.bind (normal_ev _ (by have := put2_len hle hx hy p q r s; omega)) (Ev.now _)
  · rw [if_neg e]
    refine Ev.congr (fun k => ifr e (go y x hy hx k)) ?_
    exact Ev.bind (normal_ev _ (by have := put2_len hle hy hx p q r s; omega)) (Ev.now _)
theorem smut_ev (w : List Int) (hle : w.length ≤ 12) (p q r s : Nat) (h1 : p ≤ q) (h2 : q ≤ r) (h3 : r ≤ s) (h4 : s ≤ w.length) (kind : Int) :
    Ev (fun k => spec_l09Mutate.f k w p q r s kind) (nrm (mutList w p q r s kind)) := by
  have l1 : ((w.take q).drop p).length ≤ 12 := by rw [List.length_drop, List.length_take]; omega
  have l2 : ((w.take s).drop r).length ≤ 12 := by rw [List.length_drop, List.length_take]; omega
  unfold spec_l09Mutate.f
  refine Ev.congr (f := fun k => if kind > 0 then ((spec_l01Back.f k ((w.take q).drop p)).bind fun t => ((spec_l01Back.f k ((w.take s).drop r)).bind fun u => (spec_l09Mutate.j0 k w p q r s kind t u))) else (spec_l09Mutate.j0 k w p q r s kind ((w.take q).drop p) ((w.take s).drop r))) (fun k => ?_) ?_
  · simp only [Int.toNat_natCast]
    refine ifq (by omega) (ifq (by omega) (ifq (by omega) ?_))
    rw [own_f _ (by omega)]
    refine bsq (ifq (by omega) (ifq (by omega) (ifq (by omega) ?_)))
    rw [own_f _ (by omega)]; rfl
  · unfold mutList arcOf
    by_cases e : kind > 0
    · refine Ev.congr (fun k => if_pos e) ?_
      rw [if_pos e, if_pos e]
      refine Ev.bind (back_ev _ (by omega)) ?_
      refine Ev.bind (back_ev _ (by omega)) ?_
      exact smut_j0 w _ _ hle (by rw [List.length_reverse]; exact l1) (by rw [List.length_reverse]; exact l2) p q r s h1 h2 h3 h4 kind
    · refine Ev.congr (fun k => if_neg e) ?_
      rw [if_neg e, if_neg e]
      exact smut_j0 w _ _ hle l1 l2 p q r s h1 h2 h3 h4 kind
def ok4 (w : List Int) (p q r s : Int) : Prop := 0 ≤ p ∧ p ≤ q ∧ q ≤ r ∧ r ≤ s ∧ s ≤ w.length
instance (w : List Int) (p q r s : Int) : Decidable (ok4 w p q r s) := by unfold ok4; exact inferInstance
def mutV (w : List Int) (p q r s kind : Int) : List Int × Int :=
  if isW w = true then (if ok4 w p q r s ∧ 0 ≤ kind ∧ kind ≤ 2 then (if shareS w p q r s = true then (nrm (mutList w p.toNat q.toNat r.toNat s.toNat kind), 0) else ([], 5)) else ([], 2)) else ([], 1)
theorem specMut_ev (w : List Int) (p q r s kind : Int) : Ev (fun k => spec_MutateWord.f k w p q r s kind) (mutV w p q r s kind) := by
  unfold spec_MutateWord.f mutV
  have bad : ∀ c : Int, c ≠ 0 → ∀ b, (b = true → c = 2) → Ev (fun k => spec_MutateWord.j0 k w p q r s kind c b) ([], c) := by
    intro c hc b hb
    have h1 : Ev (fun k => spec_MutateWord.j1 k w p q r s kind c) ([], c) := by
      refine Ev_succ ?_
      simp only [spec_MutateWord.j1]
      refine Ev.congr (fun k => if_neg hc) ?_
      refine Ev.step (f := fun _ => some ([], c)) (fun k => ?_) (Ev.now _)
      simp only [spec_MutateWord.j2]
      rw [if_neg (by simp), if_neg hc]
    refine Ev_succ ?_
    simp only [spec_MutateWord.j0]
    cases b with
    | true => rw [hb rfl] at h1 ⊢; exact Ev.congr (fun k => if_pos rfl) h1
    | false => exact Ev.congr (fun k => if_neg (by simp)) h1
  have bad2 : ∀ b, b = true → Ev (fun k => spec_MutateWord.j0 k w p q r s kind 0 b) ([], 2) := by
    intro b hb
    subst hb
    refine Ev_succ ?_
    simp only [spec_MutateWord.j0, if_true]
    refine Ev_succ ?_
    simp only [spec_MutateWord.j1]
    refine Ev.congr (fun k => if_neg (by decide)) ?_
    refine Ev.step (f := fun _ => some ([], 2)) (fun k => ?_) (Ev.now _)
    simp only [spec_MutateWord.j2]
    rw [if_neg (by simp), if_neg (by decide)]
  refine Ev.bind (code4_ev w p q r s) ?_
  by_cases h : isW w = true
  · rw [if_pos h]
    have hw := (isW_iff w).1 h
    have hle := hw.le
    by_cases ho : ok4 w p q r s
    · have hc : code4 w p q r s = 0 := by unfold code4; rw [if_pos h]; exact if_pos ho
      rw [hc]
      refine Ev.congr (f := fun k => spec_MutateWord.j0 k w p q r s kind 0 (!decide (0 ≤ kind ∧ kind ≤ 2))) (fun k => by rw [if_pos rfl, spec_in_f, Option.bind_some]) ?_
      by_cases hk : 0 ≤ kind ∧ kind ≤ 2
      · rw [if_pos ⟨ho, hk⟩, decide_eq_true hk]
        obtain ⟨o1, o2, o3, o4, o5⟩ := ho
        obtain ⟨p, rfl⟩ := Int.eq_ofNat_of_zero_le o1
        obtain ⟨q, rfl⟩ := Int.eq_ofNat_of_zero_le (show 0 ≤ q by omega)
        obtain ⟨r, rfl⟩ := Int.eq_ofNat_of_zero_le (show 0 ≤ r by omega)
        obtain ⟨s, rfl⟩ := Int.eq_ofNat_of_zero_le (show 0 ≤ s by omega)
        simp only [Int.toNat_natCast]
        refine Ev_succ ?_
        simp only [spec_MutateWord.j0, Bool.not_true, Bool.false_eq_true, if_false]
        refine Ev_succ ?_
        simp only [spec_MutateWord.j1, if_true]
        have hS : Ev (fun k => spec_l09Share.f k w p q r s) (shareS w p q r s) := Ev.congr (f := fun k => spec_l09Share.l0 k w p q r s ((0 : Nat) : Int)) (fun _ => rfl) (specShare_l0 w hw p q r s (by omega) (by omega) _ 0 (by omega))
        refine Ev.bind hS ?_
        refine Ev_succ ?_
        simp only [spec_MutateWord.j2]
        cases hsh : shareS w p q r s with
        | true =>
          simp only [Bool.not_true, Bool.false_eq_true, if_false, if_true]
          exact Ev.bind (smut_ev w hle p q r s (by omega) (by omega) (by omega) (by omega) kind) (Ev.now _)
        | false =>
          simp only [Bool.not_false, Bool.false_eq_true, if_false, if_true]
          exact Ev.congr (fun k => if_neg (by decide)) (Ev.now _)
      · rw [if_neg (fun g => hk g.2), decide_eq_false hk]
        exact bad2 _ rfl
    · have hc : code4 w p q r s = 2 := by unfold code4; rw [if_pos h]; exact if_neg ho
      rw [hc, if_neg (fun g => ho g.1)]
      exact Ev.congr (fun k => if_neg (by decide)) (bad 2 (by decide) false (by simp))
  · have hc : code4 w p q r s = 1 := by unfold code4; rw [if_neg h]
    rw [hc, if_neg h]
    exact Ev.congr (fun k => if_neg (by decide)) (bad 1 (by decide) false (by simp))
theorem concat5 (a b c d e : List Int) (h : (a ++ b ++ c ++ d ++ e).length ≤ 60) : slices_Concat_int64_int64.f [a, b, c, d, e] = some (a ++ b ++ c ++ d ++ e) := by
  unfold slices_Concat_int64_int64.f
  have hf : ([a, b, c, d, e] : List (List Int)).flatten = a ++ b ++ c ++ d ++ e := by simp only [List.flatten_cons, List.flatten_nil, List.append_nil, List.append_assoc]
  rw [hf, if_pos ⟨by omega, by simp⟩]
theorem isShare_f (w : List Int) (hw : Word w) (hwf : ∀ x ∈ w, (Lit.int .i64 x).wf = true) (p q r s : Nat) (h1 : p ≤ q) (h2 : q ≤ r) (h3 : r ≤ s) (h4 : s ≤ w.length) : impl_isShare.f w p q r s = some (shareS w p q r s) := by
  have hle := hw.le
  unfold impl_isShare.f slices_Concat_int64_int64.f
  simp only [Int.toNat_natCast]
  refine ifq (by omega) (ifq (by omega) (ifq (by omega) (ifq (by omega) (ifq (by omega) (ifq (by omega) ?_)))))
  have hfl : ([(w.take q).drop p, (w.take s).drop r] : List (List Int)).flatten = arcs w p q r s := by simp [arcs]
  have hal : (arcs w p q r s).length ≤ 24 := by
    unfold arcs
    simp only [List.length_append, List.length_drop, List.length_take]
    omega
  rw [hfl, if_pos (by simp only [List.length_cons, List.length_nil]; omega), Option.bind_some]
  unfold impl_twice.f
  rw [if_pos (okL_of (by omega) (fun x hx => hwf x (arcs_sub hx)))]
  have ht := tw_arcs hw p q r s h1 h2 h3 h4
  unfold tw at ht
  rw [Option.bind_some, ht]
theorem fin5 (w x y : List Int) (hle : w.length ≤ 12) (hwf : ∀ x ∈ w, (Lit.int .i64 x).wf = true) (hx : x.length ≤ 12) (hy : y.length ≤ 12) (mx : ∀ z ∈ x, z ∈ w) (my : ∀ z ∈ y, z ∈ w) (p q r s : Nat) (h1 : p ≤ q) (h2 : q ≤ r) (h3 : r ≤ s) (h4 : s ≤ w.length) :
    (if (p : Int) ≤ (w.length : Int) then (if 0 ≤ (q : Int) then (if (q : Int) ≤ (r : Int) then (if (r : Int) ≤ (w.length : Int) then (if 0 ≤ (s : Int) then ((slices_Concat_int64_int64.f (([(w.take (p : Int).toNat), x, ((w.take (r : Int).toNat).drop (q : Int).toNat), y, (w.drop (s : Int).toNat)] : List (List Int)))).bind fun t => ((impl_normal.f t).bind fun t2 => (some (t2, (0 : Int))))) else (none)) else (none)) else (none)) else (none)) else (none)) = some (nrm (put2 w p q r s x y), 0) := by
  have hl := put2_len hle hx hy p q r s
  simp only [Int.toNat_natCast]
  refine ifq (by omega) (ifq (by omega) (ifq (by omega) (ifq (by omega) (ifq (by omega) ?_))))
  rw [concat5 _ _ _ _ _ hl, Option.bind_some]
  unfold impl_normal.f
  rw [if_pos (okL_of (l := w.take p ++ x ++ (w.take r).drop q ++ y ++ w.drop s) (by unfold put2 at hl; omega) (fun z hz => hwf z (put2_mem mx my hz))), Option.bind_some]
  rfl
theorem implMut_ev (w : List Int) (p q r s kind : Int) (hwf : ∀ x ∈ w, (Lit.int .i64 x).wf = true) : Ev (fun k => impl_MutateWord.f k w p q r s kind) (mutV w p q r s kind) := by
  unfold impl_MutateWord.f mutV
  refine Ev.bind (isWord_ev w hwf) ?_
  by_cases h : isW w = true
  · rw [if_pos h]
    refine Ev.congr (fun k => if_pos h) ?_
    have hw := (isW_iff w).1 h
    have hle := hw.le
    refine Ev.bind (placesOk_ev w [p, q, r, s] (by simp)) ?_
    rw [plOk_four]
    by_cases ho : ok4 w p q r s
    · refine Ev.congr (fun k => if_pos (decide_eq_true ho)) ?_
      by_cases hk : 0 ≤ kind ∧ kind ≤ 2
      · rw [if_pos ⟨ho, hk⟩]
        refine Ev.congr (fun k => by rw [in_f, Option.bind_some, if_pos (decide_eq_true hk)]) ?_
        obtain ⟨o1, o2, o3, o4, o5⟩ := ho
        obtain ⟨p, rfl⟩ := Int.eq_ofNat_of_zero_le o1
        obtain ⟨q, rfl⟩ := Int.eq_ofNat_of_zero_le (show 0 ≤ q by omega)
        obtain ⟨r, rfl⟩ := Int.eq_ofNat_of_zero_le (show 0 ≤ r by omega)
        obtain ⟨s, rfl⟩ := Int.eq_ofNat_of_zero_le (show 0 ≤ s by omega)
        have b1 : p ≤ q := by omega
        have b2 : q ≤ r := by omega
        have b3 : r ≤ s := by omega
        have b4 : s ≤ w.length := by omega
        have hS := isShare_f w hw hwf p q r s b1 b2 b3 b4
        have l1 : ((w.take q).drop p).length ≤ 12 := by rw [List.length_drop, List.length_take]; omega
        have l2 : ((w.take s).drop r).length ≤ 12 := by rw [List.length_drop, List.length_take]; omega
        have m1 : ∀ z ∈ (w.take q).drop p, z ∈ w := fun z hz => List.mem_of_mem_take (List.mem_of_mem_drop hz)
        have m2 : ∀ z ∈ (w.take s).drop r, z ∈ w := fun z hz => List.mem_of_mem_take (List.mem_of_mem_drop hz)
        cases hsh : shareS w p q r s with
        | false =>
          rw [if_neg (by simp)]
          exact Ev.congr (fun k => by rw [hS, hsh, Option.bind_some, if_neg (by simp)]) (Ev.now _)
        | true =>
          rw [if_pos rfl]
          obtain ⟨K1, e1⟩ := reversed_ev ((w.take q).drop p) (by omega)
          obtain ⟨K2, e2⟩ := reversed_ev ((w.take s).drop r) (by omega)
          refine ⟨max K1 K2, fun k hk => ?_⟩
          have e1 : impl_reversed.f k ((w.take (q : Int).toNat).drop (p : Int).toNat) = some ((w.take q).drop p).reverse := e1 k (by omega)
          have e2 : impl_reversed.f k ((w.take (s : Int).toNat).drop (r : Int).toNat) = some ((w.take s).drop r).reverse := e2 k (by omega)
          show (impl_isShare.f w p q r s).bind _ = _
          rw [hS, hsh]
          refine bsq (ifq rfl (ifq (by omega) (ifq (by omega) (ifq (by omega) (bsq (ifq (by omega) (ifq (by omega) (ifq (by omega) (bsq ?_)))))))))
          have F := fun x y hx hy mx my => fin5 w x y hle hwf hx hy mx my p q r s b1 b2 b3 b4
          by_cases k0 : kind = 0
          · have E : mutList w p q r s kind = put2 w p q r s ((w.take s).drop r) ((w.take q).drop p) := by
              unfold mutList arcOf
              rw [if_neg (show ¬ kind = 1 by omega), if_neg (show ¬ kind > 0 by omega), if_neg (show ¬ kind > 0 by omega)]
            refine Eq.trans ?_ (congrArg (fun z => some (nrm z, (0 : Int))) E.symm)
            exact ifq k0 (ifr (by omega) (F _ _ l2 l1 m2 m1))
          · refine ifr k0 ?_
            have l1' : ((w.take q).drop p).reverse.length ≤ 12 := by rw [List.length_reverse]; exact l1
            have l2' : ((w.take s).drop r).reverse.length ≤ 12 := by rw [List.length_reverse]; exact l2
            have m1' : ∀ z ∈ ((w.take q).drop p).reverse, z ∈ w := fun z hz => m1 z (List.mem_reverse.1 hz)
            have m2' : ∀ z ∈ ((w.take s).drop r).reverse, z ∈ w := fun z hz => m2 z (List.mem_reverse.1 hz)
            rw [e1, Option.bind_some, e2, Option.bind_some]
            by_cases k1 : kind = 1
            · have E : mutList w p q r s kind = put2 w p q r s ((w.take q).drop p).reverse ((w.take s).drop r).reverse := by
                unfold mutList arcOf
                rw [if_pos k1, if_pos (show kind > 0 by omega), if_pos (show kind > 0 by omega)]
              refine Eq.trans ?_ (congrArg (fun z => some (nrm z, (0 : Int))) E.symm)
              exact ifq k1 (F _ _ l1' l2' m1' m2')
            · have E : mutList w p q r s kind = put2 w p q r s ((w.take s).drop r).reverse ((w.take q).drop p).reverse := by
                unfold mutList arcOf
                rw [if_neg k1, if_pos (show kind > 0 by omega), if_pos (show kind > 0 by omega)]
              refine Eq.trans ?_ (congrArg (fun z => some (nrm z, (0 : Int))) E.symm)
              exact ifr k1 (F _ _ l2' l1' m2' m1')
      · rw [if_neg (fun g => hk g.2)]
        exact Ev.congr (fun k => by rw [in_f, Option.bind_some, if_neg (by simpa using hk)]) (Ev.now _)
    · rw [if_neg (fun g => ho g.1)]
      exact Ev.congr (fun k => if_neg (by rw [decide_eq_true_eq]; exact ho)) (Ev.now _)
  · rw [if_neg h]
    exact Ev.congr (fun k => if_neg h) (Ev.now _)
theorem mutV_len (w : List Int) (p q r s kind : Int) : (mutV w p q r s kind).1.length ≤ 1048576 := by
  unfold mutV
  split
  · rename_i h
    have hle := ((isW_iff w).1 h).le
    split
    · split
      · have := mutList_len hle p.toNat q.toNat r.toNat s.toNat kind
        rw [nrm_len]; omega
      · simp
    · simp
  · simp
end Go.Proofs.Ytfijnlbkflmkbaa.Pure
