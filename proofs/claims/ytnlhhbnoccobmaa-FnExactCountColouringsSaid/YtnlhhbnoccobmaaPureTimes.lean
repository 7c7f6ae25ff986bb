/- Plain laws: the program's colouring polynomial, told by its values. -/
import Derived.Test.YtnlhhbnoccobmaaFx117
import Derived.Test.YtnlhhbnoccobmaaFx133
import Derived.Test.YtnlhhbnoccobmaaFx174
import Derived.Test.YtnlhhbnoccobmaaPureClsV
namespace Go.Proofs.Ytnlhhbnoccobmaa.Pure
open Go.RowKit Go.Proofs.Ytnlhhbnoccobmaa.F Go.Proofs.Ytnlhhbnoccobmaa.Mem Go.Proofs.Ytnlhhbnoccobmaa.Chrom Go.Proofs.YtnlhhbnoccobmaaW.PrintWords Go.Proofs.YtnlhhbnoccobmaaW.PrintLast
set_option linter.unusedVariables false
set_option linter.unusedSimpArgs false

/-- Numbers between -M and M. -/
def Lo (M : Int) (l : List Int) : Prop := ∀ i, -M ≤ l.getD i 0 ∧ l.getD i 0 ≤ M
theorem Lo.le {M N : Int} {l : List Int} (h : Lo M l) (hMN : M ≤ N) : Lo N l := fun i => by have := h i; omega
theorem Lo.set {M : Int} {l : List Int} (h : Lo M l) (j : Nat) (v : Int) (hv : -M ≤ v ∧ v ≤ M) : Lo M (l.set j v) := fun i => by
  have hi := h i
  by_cases hl : i < l.length
  · rw [Chrom.getD_set _ _ _ _ _ hl]
    split
    · exact hv
    · exact hi
  · rw [List.getD_eq_getElem?_getD, List.getElem?_eq_none (by rw [List.length_set]; omega)]
    rw [List.getD_eq_getElem?_getD, List.getElem?_eq_none (by omega)] at hi
    exact hi
theorem lo_zeros (M : Int) (hM : 0 ≤ M) (n : Nat) : Lo M (List.replicate n 0) := fun i => by
  rw [List.getD_eq_getElem?_getD, List.getElem?_replicate]
  split <;> simp <;> omega
theorem pv_take (x : Int) (f : List Int) (i : Nat) (h : i < f.length) : pv x (f.take (i + 1)) = pv x (f.take i) + f.getD i 0 * x ^ i := by
  have key : ∀ (f : List Int) (i : Nat), i < f.length → pv x (f.take (i + 1)) = pv x (f.take i) + f.getD i 0 * x ^ i := by
    intro f
    induction f with
    | nil => intro i h; simp at h
    | cons a f ih =>
      intro i h
      cases i with
      | zero => simp [pv]
      | succ i =>
        rw [List.take_succ_cons, pv, List.take_succ_cons, pv, ih i (by simpa using h), List.getD_cons_succ, Int.mul_add, Int.pow_succ]
        have : x * (f.getD i 0 * x ^ i) = f.getD i 0 * (x ^ i * x) := by rw [← Int.mul_assoc, Int.mul_comm x, Int.mul_assoc, Int.mul_comm x]
        omega
  exact key f i h
theorem mul_bound {a b A B : Int} (ha : -A ≤ a ∧ a ≤ A) (hb : 0 ≤ b ∧ b ≤ B) (hA : 0 ≤ A) : -(A * B) ≤ b * a ∧ b * a ≤ A * B := by
  have h1 : b * a ≤ b * A := Int.mul_le_mul_of_nonneg_left ha.2 hb.1
  have h2 : b * A ≤ B * A := Int.mul_le_mul_of_nonneg_right hb.2 hA
  have h3 : b * (-A) ≤ b * a := Int.mul_le_mul_of_nonneg_left ha.1 hb.1
  have h4 : b * (-A) = -(b * A) := Int.mul_neg ..
  have h5 : B * A = A * B := Int.mul_comm ..
  omega
/-- A polynomial times x less a number. -/
theorem times_ev (f : List Int) (c : Int) (hc : 0 ≤ c ∧ c ≤ 6) (M : Int) (hM0 : 0 ≤ M) (hM : M ≤ 1000000000) (hf : Lo M f) (hl : f.length ≤ 20) :
    ∃ r, Ev (fun k => impl_times.f k f c) r ∧ r.length = f.length + 1 ∧ (∀ x : Int, pv x r = (x - c) * pv x f) ∧ Lo (7 * M) r := by
  have key : ∀ d i (out : List Int), i + d = f.length → out.length = f.length + 1 → (∀ x : Int, pv x out = (x - c) * pv x (f.take i)) → (∀ j, j < i → -(7 * M) ≤ out.getD j 0 ∧ out.getD j 0 ≤ 7 * M) → (-M ≤ out.getD i 0 ∧ out.getD i 0 ≤ M) → (∀ j, i < j → out.getD j 0 = 0) →
      ∃ r, Ev (fun k => impl_times.l0 k c out f (f.length : Int) (i : Int)) r ∧ r.length = f.length + 1 ∧ (∀ x : Int, pv x r = (x - c) * pv x f) ∧ Lo (7 * M) r := by
    intro d
    induction d with
    | zero =>
      intro i out hi ho hp h1 h2 h3
      refine ⟨out, ?_, ho, fun x => ?_, fun j => ?_⟩
      · refine Ev_succ ?_
        simp only [impl_times.l0]
        exact Ev.congr (fun k => if_neg (by omega)) (Ev.now _)
      · rw [hp x, show f.take i = f from List.take_of_length_le (by omega)]
      · rcases Nat.lt_trichotomy j i with h | h | h
        · exact h1 j h
        · subst h; omega
        · rw [h3 j h]; omega
    | succ d ih =>
      intro i out hi ho hp h1 h2 h3
      have hil : i < f.length := by omega
      have hfi := hf i
      obtain ⟨a, ha⟩ : ∃ a, a = f.getD i 0 := ⟨_, rfl⟩
      rw [← ha] at hfi
      have hca := mul_bound hfi hc hM0
      obtain ⟨p, hpv⟩ : ∃ p, p = c * a := ⟨_, rfl⟩
      rw [← hpv] at hca
      have e1 : (out.set (i + 1) (out.getD (i + 1) 0 + a)).getD i 0 = out.getD i 0 := by
        rw [Chrom.getD_set _ _ _ _ _ (by omega), if_neg (by omega)]
      obtain ⟨r, hr, hrest⟩ := ih (i + 1) ((out.set (i + 1) (out.getD (i + 1) 0 + a)).set i ((out.set (i + 1) (out.getD (i + 1) 0 + a)).getD i 0 + (-p))) (by omega) (by rw [List.length_set, List.length_set]; exact ho) (fun x => by
        rw [pv_set x _ i _ (by rw [List.length_set]; omega), pv_set x out (i + 1) a (by omega), hp x, pv_take x f i hil, ← ha, Int.mul_add, Int.pow_succ, hpv]
        rw [Int.sub_mul x c (a * x ^ i)]
        have h4 : x * (a * x ^ i) = a * (x ^ i * x) := by rw [← Int.mul_assoc, Int.mul_comm x, Int.mul_assoc, Int.mul_comm x]
        have h5 : -(c * a) * x ^ i = -(c * (a * x ^ i)) := by rw [Int.neg_mul, Int.mul_assoc]
        omega) (fun j hj => by
        rw [Chrom.getD_set _ _ _ _ _ (by rw [List.length_set]; omega)]
        by_cases e : j = i
        · rw [if_pos e, e1]; omega
        · rw [if_neg e, Chrom.getD_set _ _ _ _ _ (by omega), if_neg (by omega)]
          exact h1 j (by omega)) (by
        rw [Chrom.getD_set _ _ _ _ _ (by rw [List.length_set]; omega), if_neg (by omega), Chrom.getD_set _ _ _ _ _ (by omega), if_pos rfl, h3 (i + 1) (by omega)]
        omega) (fun j hj => by
        by_cases hjl : j < out.length
        · rw [Chrom.getD_set _ _ _ _ _ (by rw [List.length_set]; omega), if_neg (by omega), Chrom.getD_set _ _ _ _ _ hjl, if_neg (by omega), h3 j (by omega)]
        · rw [List.getD_eq_getElem?_getD, List.getElem?_eq_none (by rw [List.length_set, List.length_set]; omega)]; rfl)
      refine ⟨r, ?_, hrest⟩
      have h3i := h3 (i + 1) (by omega)
      refine Ev_succ ?_
      simp only [impl_times.l0]
      refine Ev.congr (fun k => if_pos (by omega)) (Ev.congr (fun k => if_pos (by omega)) (Ev.congr (fun k => if_pos (by omega)) ?_))
      rw [wS (n := i) (by omega)]
      refine Ev.congr (fun k => if_pos (by omega)) (Ev.congr (fun k => if_pos (by omega)) ?_)
      rw [Int.toNat_natCast, rdN, rdN, ← ha, show wrap64 (out.getD (i + 1) 0 + a) = out.getD (i + 1) 0 + a from by unfold wrap64; omega]
      refine Ev.congr (fun k => Option.bind_some _ _) (Ev.congr (fun k => if_pos (by omega)) ?_)
      rw [Int.toNat_natCast, rdN, e1, ← hpv, show wrap64 p = p from by unfold wrap64; omega, show wrap64 (out.getD i 0 - p) = out.getD i 0 + -p from by unfold wrap64; omega]
      rw [e1] at hr
      exact hr
  have h0 := key f.length 0 (List.replicate (f.length + 1) 0) (by omega) (by simp) (fun x => by rw [pv_replicate, List.take_zero, pv, Int.mul_zero]) (fun j hj => absurd hj (Nat.not_lt_zero _)) (lo_zeros M hM0 _ 0) (fun j _ => by
    have h1 := lo_zeros 0 (Int.le_refl _) (f.length + 1) j
    omega)
  obtain ⟨r, hr, hrest⟩ := h0
  refine ⟨r, ?_, hrest⟩
  unfold impl_times.f
  rw [wS (by omega)]
  refine Ev.congr (fun k => if_pos (by omega)) (Ev.congr (fun k => if_pos (by omega)) ?_)
  rw [Int.toNat_natCast]
  exact hr
/-- One round of the sum: out gets many times a polynomial. -/
theorem addIn_ev (g out0 : List Int) (many : Int) (hm : 0 ≤ many ∧ many ≤ 117649) (hg : Lo 823543 g) (B : Int) (hB0 : 0 ≤ B) (hB : B ≤ 900000000000) (ho : Lo B out0) (hl : g.length ≤ out0.length) (hl2 : out0.length ≤ 20)
    (cl : List Int) (i : Nat) (Q : List Int → Prop)
    (hnext : ∀ out1 : List Int, out1.length = out0.length → (∀ x : Int, pv x out1 = pv x out0 + many * pv x g) → Lo (B + 100000000000) out1 → ∃ r, Ev (fun k => (impl_times.f k g (i : Int)).bind fun t => impl_colouring.l0 k out1 t cl (cl.length : Int) (wrap64 ((i : Int) + 1))) r ∧ Q r) :
    ∃ r, Ev (fun k => impl_colouring.l1 k out0 g (i : Int) many cl (cl.length : Int) (i : Int) g (g.length : Int) 0) r ∧ Q r := by
  have key : ∀ d j (out : List Int), j + d = g.length → out.length = out0.length → (∀ x : Int, pv x out = pv x out0 + many * pv x (g.take j)) → Lo (B + 100000000000) out → (∀ q, j ≤ q → -B ≤ out.getD q 0 ∧ out.getD q 0 ≤ B) →
      ∃ r, Ev (fun k => impl_colouring.l1 k out g (i : Int) many cl (cl.length : Int) (i : Int) g (g.length : Int) (j : Int)) r ∧ Q r := by
    intro d
    induction d with
    | zero =>
      intro j out hj ho1 hp hlo _
      obtain ⟨r, hr, hq⟩ := hnext out ho1 (fun x => by rw [hp x, show g.take j = g from List.take_of_length_le (by omega)]) hlo
      refine ⟨r, ?_, hq⟩
      refine Ev_succ ?_
      simp only [impl_colouring.l1]
      exact Ev.congr (fun k => if_neg (by omega)) hr
    | succ d ih =>
      intro j out hj ho1 hp hlo hrest
      have hjg : j < g.length := by omega
      obtain ⟨a, ha⟩ : ∃ a, a = g.getD j 0 := ⟨_, rfl⟩
      have hga := hg j
      rw [← ha] at hga
      have hma := mul_bound hga hm (by omega)
      obtain ⟨p, hpp⟩ : ∃ p, p = many * a := ⟨_, rfl⟩
      rw [← hpp] at hma
      have hq := hrest j (Nat.le_refl _)
      obtain ⟨r, hr, hQ⟩ := ih (j + 1) (out.set j (out.getD j 0 + p)) (by omega) (by rw [List.length_set]; exact ho1) (fun x => by
        rw [pv_set x out j p (by omega), hp x, pv_take x g j hjg, ← ha, Int.mul_add, hpp, Int.mul_assoc]; omega) (hlo.set j _ (by omega)) (fun q hqj => by
        by_cases hql : q < out.length
        · rw [Chrom.getD_set _ _ _ _ _ hql, if_neg (by omega)]; exact hrest q (by omega)
        · rw [List.getD_eq_getElem?_getD, List.getElem?_eq_none (by rw [List.length_set]; omega)]
          show -B ≤ 0 ∧ 0 ≤ B
          omega)
      refine ⟨r, ?_, hQ⟩
      refine Ev_succ ?_
      simp only [impl_colouring.l1]
      refine Ev.congr (fun k => if_pos (by omega)) (Ev.congr (fun k => if_pos (by omega)) (Ev.congr (fun k => if_pos (by omega)) (Ev.congr (fun k => if_pos (by omega)) ?_)))
      rw [Int.toNat_natCast, rdN, rdN, ← ha, ← hpp, show wrap64 p = p from by unfold wrap64; omega, show wrap64 (out.getD j 0 + p) = out.getD j 0 + p from by unfold wrap64; omega, wS (n := j) (by omega)]
      exact hr
  exact key g.length 0 out0 (by omega) rfl (fun x => by rw [List.take_zero, pv, Int.mul_zero, Int.add_zero]) (ho.le (by omega)) (fun q _ => ho q)
theorem seven_le {i : Nat} (hi : i ≤ 7) : (7 : Int) ^ i ≤ 823543 := by
  have h : 7 ^ i ≤ 823543 := Nat.le_trans (Nat.pow_le_pow_right (n := 7) (by decide) hi) (by decide)
  have e : ((7 ^ i : Nat) : Int) = (7 : Int) ^ i := by rw [Int.natCast_pow]; rfl
  omega
/-- What the program's colouring polynomial is worth at x. -/
theorem colouring_ev (w : List Int) (hw : Word w) (hW : isW w = true) : ∃ r, Ev (fun k => impl_colouring.f k w) r ∧ r.length = w.length / 2 + 1 ∧ (∀ x : Int, pv x r = Chrom.ev x (clsOf (crossB w) (w.length / 2))) ∧ r.length ≤ 20 := by
  have hle := hw.le
  obtain ⟨n, hn⟩ : ∃ n, n = w.length / 2 := ⟨_, rfl⟩
  have hn6 : n ≤ 6 := by omega
  have hc := classV_eq w hw
  obtain ⟨cl, hcl⟩ : ∃ cl, cl = classV w := ⟨_, rfl⟩
  rw [← hcl, ← hn] at hc
  have hcll : cl.length = n + 1 := by rw [hc.1, clsOf_len]
  rw [← hn, ← hc.1]
  have key : ∀ d i (out g : List Int), i + d = n + 1 → out.length = n + 1 → (∀ x : Int, pv x out = sumR (fun j => cl.getD j 0 * fall x j) i) → Lo ((i : Int) * 100000000000) out → g.length = i + 1 → (∀ x : Int, pv x g = fall x i) → Lo ((7 : Int) ^ i) g →
      ∃ r, Ev (fun k => impl_colouring.l0 k out g cl (cl.length : Int) (i : Int)) r ∧ (r.length = n + 1 ∧ ∀ x : Int, pv x r = sumR (fun j => cl.getD j 0 * fall x j) (n + 1)) := by
    intro d
    induction d with
    | zero =>
      intro i out g hi ho hp hlo hg hpg hlg
      refine ⟨out, ?_, ho, fun x => by rw [hp x, show i = n + 1 from by omega]⟩
      refine Ev_succ ?_
      simp only [impl_colouring.l0]
      exact Ev.congr (fun k => if_neg (by omega)) (Ev.now _)
    | succ d ih =>
      intro i out g hi ho hp hlo hg hpg hlg
      have h7 := seven_le (i := i) (by omega)
      have h70 : (0 : Int) ≤ (7 : Int) ^ i := Int.le_of_lt (Int.pow_pos (by decide))
      have hmany := hc.2 i
      obtain ⟨r, hr, hq⟩ := addIn_ev g out (cl.getD i 0) hmany (hlg.le h7) ((i : Int) * 100000000000) (by omega) (by omega) hlo (by omega) (by omega) cl i (fun r => r.length = n + 1 ∧ ∀ x : Int, pv x r = sumR (fun j => cl.getD j 0 * fall x j) (n + 1)) (fun out1 ho1 hp1 hlo1 => by
        obtain ⟨t, ht, htl, htp, htlo⟩ := times_ev g (i : Int) (by omega) ((7 : Int) ^ i) h70 (by omega) hlg (by omega)
        obtain ⟨r, hr, hq⟩ := ih (i + 1) out1 t (by omega) (by omega) (fun x => by rw [hp1 x, hp x, sumR, hpg x]) (by
          have e : (((i + 1 : Nat) : Int)) * 100000000000 = (i : Int) * 100000000000 + 100000000000 := by omega
          rw [e]; exact hlo1) (by omega) (fun x => by rw [htp x, hpg x, fall, Int.mul_comm]) (by
          rw [Int.pow_succ, Int.mul_comm]; exact htlo)
        refine ⟨r, ?_, hq⟩
        refine Ev.bind ht ?_
        rw [wS (n := i) (by omega)]
        exact hr)
      refine ⟨r, ?_, hq⟩
      refine Ev_succ ?_
      simp only [impl_colouring.l0]
      refine Ev.congr (fun k => if_pos (by omega)) (Ev.congr (fun k => if_pos (by omega)) (Ev.congr (fun k => if_pos (by omega)) ?_))
      rw [rdN]
      exact hr
  obtain ⟨r, hr, hl, hp⟩ := key (n + 1) 0 (List.replicate (n + 1) 0) [1] (by omega) (by simp) (fun x => by rw [pv_replicate]; rfl) (lo_zeros _ (by omega) _) rfl (fun x => by simp [pv, fall]) (fun i => by
    cases i with
    | zero => simp
    | succ i => simp)
  refine ⟨r, ?_, hl, fun x => by rw [hp x]; unfold Chrom.ev; rw [hcll], by omega⟩
  unfold impl_colouring.f
  rw [chords_f w hle, ← hn]
  refine Ev.congr (fun k => Option.bind_some _ _) ?_
  rw [wS (n := n) (by omega)]
  refine Ev.congr (fun k => if_pos (by omega)) (Ev.congr (fun k => if_pos (by omega)) ?_)
  unfold impl_classes.f
  rw [if_pos hW, ← hcl]
  refine Ev.congr (fun k => Option.bind_some _ _) ?_
  rw [Int.toNat_natCast]
  exact hr
end Go.Proofs.Ytnlhhbnoccobmaa.Pure
