/- Plain laws: what SharesOf comes to on both sides. -/
import Derived.Test.YtfijnlbkflmkbaaFx114
import Derived.Test.YtfijnlbkflmkbaaFx50
import Derived.Test.YtfijnlbkflmkbaaFx51
import Derived.Test.YtfijnlbkflmkbaaFx87
import Derived.Test.YtfijnlbkflmkbaaFx89
import Derived.Test.YtfijnlbkflmkbaaPureShare
import Derived.Test.YtfijnlbkflmkbaaPureD
namespace Go.Proofs.Ytfijnlbkflmkbaa.Pure
open Go.RowKit Go.Proofs.Ytfijnlbkflmkbaa.F Go.Proofs.YtfijnlbkflmkbaaW.PrintWords Go.Proofs.YtfijnlbkflmkbaaW.PrintLast
set_option linter.unusedVariables false
set_option linter.unusedSimpArgs false

theorem wSub (a b : Int) (h1 : -1000 ≤ a - b) (h2 : a - b ≤ 1000) : wrap64 (a - b) = a - b := by unfold wrap64; omega
theorem wAdd (a b : Int) (h1 : -1000 ≤ a + b) (h2 : a + b ≤ 1000) : wrap64 (a + b) = a + b := by unfold wrap64; omega
/-! ### all shares, loop by loop -/
def sh3 (G : Nat → Bool) (row : Nat → List Int) : Nat → Nat → List (List Int) → List (List Int)
  | 0, _, out => out
  | d + 1, s, out => sh3 G row d (s + 1) (if G s = true then out ++ [row s] else out)
def sh2 (N : Nat) (G : Nat → Nat → Bool) (row : Nat → Nat → List Int) : Nat → Nat → List (List Int) → List (List Int)
  | 0, _, out => out
  | d + 1, r, out => sh2 N G row d (r + 1) (sh3 (G r) (row r) (N - r) (r + 1) out)
def sh1 (N : Nat) (G : Nat → Nat → Nat → Bool) (row : Nat → Nat → Nat → List Int) : Nat → Nat → List (List Int) → List (List Int)
  | 0, _, out => out
  | d + 1, q, out => sh1 N G row d (q + 1) (sh2 N (G q) (row q) (N - q) q out)
def sh0 (N : Nat) (G : Nat → Nat → Nat → Nat → Bool) (row : Nat → Nat → Nat → Nat → List Int) : Nat → Nat → List (List Int) → List (List Int)
  | 0, _, out => out
  | d + 1, p, out => sh0 N G row d (p + 1) (sh1 N (G p) (row p) (N - p) (p + 1) out)
theorem sh3_len (G : Nat → Bool) (row : Nat → List Int) : ∀ (d s : Nat) (out : List (List Int)), (sh3 G row d s out).length ≤ out.length + d
  | 0, _, _ => by rw [sh3]; omega
  | d + 1, s, out => by
    rw [sh3]
    have := sh3_len G row d (s + 1) (if G s = true then out ++ [row s] else out)
    split at this
    · rename_i h; rw [if_pos h]; rw [List.length_append, List.length_singleton] at this; omega
    · rename_i h; rw [if_neg h]; omega
theorem sh2_len (N : Nat) (hN : N ≤ 12) (G : Nat → Nat → Bool) (row : Nat → Nat → List Int) : ∀ (d r : Nat) (out : List (List Int)), (sh2 N G row d r out).length ≤ out.length + d * 13
  | 0, _, _ => by rw [sh2]; omega
  | d + 1, r, out => by
    rw [sh2]
    have h1 := sh2_len N hN G row d (r + 1) (sh3 (G r) (row r) (N - r) (r + 1) out)
    have h2 := sh3_len (G r) (row r) (N - r) (r + 1) out
    rw [Nat.succ_mul]; omega
theorem sh1_len (N : Nat) (hN : N ≤ 12) (G : Nat → Nat → Nat → Bool) (row : Nat → Nat → Nat → List Int) : ∀ (d q : Nat) (out : List (List Int)), (sh1 N G row d q out).length ≤ out.length + d * 200
  | 0, _, _ => by rw [sh1]; omega
  | d + 1, q, out => by
    rw [sh1]
    have h1 := sh1_len N hN G row d (q + 1) (sh2 N (G q) (row q) (N - q) q out)
    have h2 := sh2_len N hN (G q) (row q) (N - q) q out
    have h3 : (N - q) * 13 ≤ 156 := Nat.mul_le_mul_right 13 (show N - q ≤ 12 by omega)
    rw [Nat.succ_mul]; omega
theorem sh0_len (N : Nat) (hN : N ≤ 12) (G : Nat → Nat → Nat → Nat → Bool) (row : Nat → Nat → Nat → Nat → List Int) : ∀ (d p : Nat) (out : List (List Int)), (sh0 N G row d p out).length ≤ out.length + d * 2400
  | 0, _, _ => by rw [sh0]; omega
  | d + 1, p, out => by
    rw [sh0]
    have h1 := sh0_len N hN G row d (p + 1) (sh1 N (G p) (row p) (N - p) (p + 1) out)
    have h2 := sh1_len N hN (G p) (row p) (N - p) (p + 1) out
    have h3 : (N - p) * 200 ≤ 2400 := Nat.mul_le_mul_right 200 (show N - p ≤ 12 by omega)
    rw [Nat.succ_mul]; omega
/-- Every row of the list is four long. -/
def Four (out : List (List Int)) : Prop := ∀ r ∈ out, r.length = 4
theorem sh3_four (G : Nat → Bool) (row : Nat → List Int) (hrow : ∀ s, (row s).length = 4) : ∀ (d s : Nat) (out : List (List Int)), Four out → Four (sh3 G row d s out)
  | 0, _, _, h => h
  | d + 1, s, out, h => by
    rw [sh3]
    refine sh3_four G row hrow d (s + 1) _ ?_
    split
    · intro r hr
      rcases List.mem_append.1 hr with g | g
      · exact h r g
      · rw [List.mem_singleton] at g; rw [g]; exact hrow s
    · exact h
theorem sh2_four (N : Nat) (G : Nat → Nat → Bool) (row : Nat → Nat → List Int) (hrow : ∀ r s, (row r s).length = 4) : ∀ (d r : Nat) (out : List (List Int)), Four out → Four (sh2 N G row d r out)
  | 0, _, _, h => h
  | d + 1, r, out, h => by rw [sh2]; exact sh2_four N G row hrow d (r + 1) _ (sh3_four (G r) (row r) (hrow r) _ _ _ h)
theorem sh1_four (N : Nat) (G : Nat → Nat → Nat → Bool) (row : Nat → Nat → Nat → List Int) (hrow : ∀ q r s, (row q r s).length = 4) : ∀ (d q : Nat) (out : List (List Int)), Four out → Four (sh1 N G row d q out)
  | 0, _, _, h => h
  | d + 1, q, out, h => by rw [sh1]; exact sh1_four N G row hrow d (q + 1) _ (sh2_four N (G q) (row q) (hrow q) _ _ _ h)
theorem sh0_four (N : Nat) (G : Nat → Nat → Nat → Nat → Bool) (row : Nat → Nat → Nat → Nat → List Int) (hrow : ∀ p q r s, (row p q r s).length = 4) : ∀ (d p : Nat) (out : List (List Int)), Four out → Four (sh0 N G row d p out)
  | 0, _, _, h => h
  | d + 1, p, out, h => by rw [sh0]; exact sh0_four N G row hrow d (p + 1) _ (sh1_four N (G p) (row p) (hrow p) _ _ _ h)
def shG (w : List Int) (N p q r s : Nat) : Bool := decide ((q : Int) - p + s - r < (N : Int)) && shareS w (p : Int) (q : Int) (r : Int) (s : Int)
def sharesL (w : List Int) : List (List Int) := sh0 w.length (shG w w.length) (fun p q r s => [(p : Int), (q : Int), (r : Int), (s : Int)]) w.length 0 []
theorem isShare_f (w : List Int) (hw : Word w) (hwf : ∀ x ∈ w, (Lit.int .i64 x).wf = true) (p q r s : Nat) (h1 : p ≤ q) (h2 : q ≤ r) (h3 : r ≤ s) (h4 : s ≤ w.length) : impl_isShare.f w (p : Int) (q : Int) (r : Int) (s : Int) = some (shareS w (p : Int) (q : Int) (r : Int) (s : Int)) := by
  have hle := hw.le
  unfold impl_isShare.f slices_Concat_int64_int64.f
  rw [if_pos (by omega), if_pos (by omega), if_pos (by omega), if_pos (by omega), if_pos (by omega), if_pos (by omega)]
  simp only [Int.toNat_natCast]
  have hfl : ([(w.take q).drop p, (w.take s).drop r] : List (List Int)).flatten = arcs w p q r s := by simp [arcs]
  have hal : (arcs w p q r s).length ≤ 24 := by
    unfold arcs
    simp only [List.length_append, List.length_drop, List.length_take]
    omega
  rw [hfl, if_pos (by simp only [List.length_cons, List.length_nil]; omega), Option.bind_some]
  unfold impl_twice.f
  rw [if_pos (okL_of (by omega) (fun x hx => hwf x (arcs_sub hx)))]
  simp only [Option.bind_some]
  have ht := tw_arcs hw p q r s h1 h2 h3 h4
  unfold tw at ht
  rw [ht]
theorem specShare_ev (w : List Int) (hw : Word w) (p q r s : Nat) (h1 : q ≤ 12) (h2 : s ≤ 12) : Ev (fun k => spec_l09Share.f k w (p : Int) (q : Int) (r : Int) (s : Int)) (shareS w (p : Int) (q : Int) (r : Int) (s : Int)) :=
  specShare_l0 w hw p q r s (by omega) (by omega) (w.length / 2) 0 (by omega)
theorem specSh_l3 (w : List Int) (hw : Word w) (N : Nat) (hN : N = w.length) (p q r : Nat) (hpq : p ≤ q) (hqr : q ≤ r) (hr : r < N) (res : List (List Int)) : ∀ (d s : Nat) (out : List (List Int)), s + d = N + 1 → r ≤ s → out.length + d ≤ 1000000 →
    Ev (fun k => spec_l09Shares.l2 k w (sh3 (shG w N p q r) (fun s => [(p : Int), (q : Int), (r : Int), (s : Int)]) d s out) (N : Int) (p : Int) (q : Int) ((r + 1 : Nat) : Int)) res → Ev (fun k => spec_l09Shares.l3 k w out (N : Int) (p : Int) (q : Int) (r : Int) (s : Int)) res := by
  have hle := hw.le
  intro d
  induction d with
  | zero =>
    intro s out hs hrs hb h
    refine Ev_succ ?_
    simp only [spec_l09Shares.l3]
    rw [wS (n := r) (by omega)]
    exact Ev.congr (fun k => if_neg (by omega)) h
  | succ d ih =>
    intro s out hs hrs hb h
    refine Ev_succ ?_
    simp only [spec_l09Shares.l3]
    rw [wSub (q : Int) p (by omega) (by omega), wAdd ((q : Int) - p) s (by omega) (by omega), wSub ((q : Int) - p + s) r (by omega) (by omega), wS (by omega)]
    rw [sh3] at h
    refine Ev.congr (fun k => if_pos (by omega)) ?_
    by_cases hlt : (q : Int) - p + s - r < (N : Int)
    · refine Ev.congr (fun k => if_pos hlt) ?_
      refine Ev.bind (specShare_ev w hw p q r s (by omega) (by omega)) ?_
      by_cases g : shareS w (p : Int) (q : Int) (r : Int) (s : Int) = true
      · rw [if_pos (show shG w N p q r s = true from by unfold shG; rw [decide_eq_true hlt, g]; rfl)] at h
        refine Ev.congr (fun k => if_pos g) (Ev.congr (fun k => if_pos (by omega)) ?_)
        exact ih (s + 1) _ (by omega) (by omega) (by rw [List.length_append, List.length_singleton]; omega) h
      · rw [if_neg (show ¬ shG w N p q r s = true from by unfold shG; rw [decide_eq_true hlt, Bool.true_and]; exact g)] at h
        refine Ev.congr (fun k => if_neg g) ?_
        exact ih (s + 1) _ (by omega) (by omega) (by omega) h
    · rw [if_neg (show ¬ shG w N p q r s = true from by unfold shG; rw [decide_eq_false hlt, Bool.false_and]; simp)] at h
      refine Ev.congr (fun k => if_neg hlt) ?_
      exact ih (s + 1) _ (by omega) (by omega) (by omega) h
theorem specSh_l2 (w : List Int) (hw : Word w) (N : Nat) (hN : N = w.length) (p q : Nat) (hpq : p ≤ q) (res : List (List Int)) : ∀ (d r : Nat) (out : List (List Int)), r + d = N → q ≤ r → out.length + d * 13 ≤ 900000 →
    Ev (fun k => spec_l09Shares.l1 k w (sh2 N (shG w N p q) (fun r s => [(p : Int), (q : Int), (r : Int), (s : Int)]) d r out) (N : Int) (p : Int) ((q + 1 : Nat) : Int)) res → Ev (fun k => spec_l09Shares.l2 k w out (N : Int) (p : Int) (q : Int) (r : Int)) res := by
  have hle := hw.le
  intro d
  induction d with
  | zero =>
    intro r out hs hrs hb h
    refine Ev_succ ?_
    simp only [spec_l09Shares.l2]
    rw [wS (n := q) (by omega)]
    exact Ev.congr (fun k => if_neg (by omega)) h
  | succ d ih =>
    intro r out hs hrs hb h
    rw [Nat.succ_mul] at hb
    refine Ev_succ ?_
    simp only [spec_l09Shares.l2]
    refine Ev.congr (fun k => if_pos (by omega)) ?_
    rw [wS (by omega)]
    refine specSh_l3 w hw N hN p q r hpq hrs (by omega) res (N - r) (r + 1) out (by omega) (by omega) (by omega) ?_
    have hl := sh3_len (shG w N p q r) (fun s => [(p : Int), (q : Int), (r : Int), (s : Int)]) (N - r) (r + 1) out
    exact ih (r + 1) _ (by omega) (by omega) (by omega) h
theorem specSh_l1 (w : List Int) (hw : Word w) (N : Nat) (hN : N = w.length) (p : Nat) (hp : p < N) (res : List (List Int)) : ∀ (d q : Nat) (out : List (List Int)), q + d = N + 1 → p ≤ q → out.length + d * 200 ≤ 800000 →
    Ev (fun k => spec_l09Shares.l0 k w (sh1 N (shG w N p) (fun q r s => [(p : Int), (q : Int), (r : Int), (s : Int)]) d q out) (N : Int) ((p + 1 : Nat) : Int)) res → Ev (fun k => spec_l09Shares.l1 k w out (N : Int) (p : Int) (q : Int)) res := by
  have hle := hw.le
  intro d
  induction d with
  | zero =>
    intro q out hs hrs hb h
    refine Ev_succ ?_
    simp only [spec_l09Shares.l1]
    rw [wS (n := p) (by omega)]
    exact Ev.congr (fun k => if_neg (by omega)) h
  | succ d ih =>
    intro q out hs hrs hb h
    rw [Nat.succ_mul] at hb
    refine Ev_succ ?_
    simp only [spec_l09Shares.l1]
    refine Ev.congr (fun k => if_pos (by omega)) ?_
    have hl := sh2_len N (by omega) (shG w N p q) (fun r s => [(p : Int), (q : Int), (r : Int), (s : Int)]) (N - q) q out
    refine specSh_l2 w hw N hN p q hrs res (N - q) q out (by omega) (Nat.le_refl _) (by omega) ?_
    exact ih (q + 1) _ (by omega) (by omega) (by omega) h
theorem implSh_l3 (w : List Int) (hw : Word w) (hwf : ∀ x ∈ w, (Lit.int .i64 x).wf = true) (N : Nat) (hN : N = w.length) (p q r : Nat) (hpq : p ≤ q) (hqr : q ≤ r) (hr : r < N) (res : List (List Int) × Int) : ∀ (d s : Nat) (out : List (List Int)), s + d = N + 1 → r ≤ s → out.length + d ≤ 1000000 →
    Ev (fun k => impl_SharesOf.l2 k w (sh3 (shG w N p q r) (fun s => [(p : Int), (q : Int), (r : Int), (s : Int)]) d s out) (N : Int) (p : Int) (q : Int) ((r + 1 : Nat) : Int) (N : Int) (p : Int)) res → Ev (fun k => impl_SharesOf.l3 k w out (N : Int) (p : Int) (q : Int) (r : Int) (s : Int) (N : Int) (p : Int)) res := by
  have hle := hw.le
  intro d
  induction d with
  | zero =>
    intro s out hs hrs hb h
    refine Ev_succ ?_
    simp only [impl_SharesOf.l3]
    rw [wS (n := r) (by omega)]
    exact Ev.congr (fun k => if_neg (by omega)) h
  | succ d ih =>
    intro s out hs hrs hb h
    refine Ev_succ ?_
    simp only [impl_SharesOf.l3]
    rw [wSub (q : Int) p (by omega) (by omega), wAdd ((q : Int) - p) s (by omega) (by omega), wSub ((q : Int) - p + s) r (by omega) (by omega), wS (by omega)]
    rw [sh3] at h
    refine Ev.congr (fun k => if_pos (by omega)) ?_
    by_cases hlt : (q : Int) - p + s - r < (N : Int)
    · refine Ev.congr (fun k => if_pos hlt) ?_
      refine Ev.congr (fun k => by rw [isShare_f w hw hwf p q r s hpq hqr hrs (by omega), Option.bind_some]) ?_
      by_cases g : shareS w (p : Int) (q : Int) (r : Int) (s : Int) = true
      · rw [if_pos (show shG w N p q r s = true from by unfold shG; rw [decide_eq_true hlt, g]; rfl)] at h
        refine Ev.congr (fun k => if_pos g) (Ev.congr (fun k => if_pos (by omega)) ?_)
        exact ih (s + 1) _ (by omega) (by omega) (by rw [List.length_append, List.length_singleton]; omega) h
      · rw [if_neg (show ¬ shG w N p q r s = true from by unfold shG; rw [decide_eq_true hlt, Bool.true_and]; exact g)] at h
        refine Ev.congr (fun k => if_neg g) ?_
        exact ih (s + 1) _ (by omega) (by omega) (by omega) h
    · rw [if_neg (show ¬ shG w N p q r s = true from by unfold shG; rw [decide_eq_false hlt, Bool.false_and]; simp)] at h
      refine Ev.congr (fun k => if_neg hlt) ?_
      exact ih (s + 1) _ (by omega) (by omega) (by omega) h
theorem implSh_l2 (w : List Int) (hw : Word w) (hwf : ∀ x ∈ w, (Lit.int .i64 x).wf = true) (N : Nat) (hN : N = w.length) (p q : Nat) (hpq : p ≤ q) (res : List (List Int) × Int) : ∀ (d r : Nat) (out : List (List Int)), r + d = N → q ≤ r → out.length + d * 13 ≤ 900000 →
    Ev (fun k => impl_SharesOf.l1 k w (sh2 N (shG w N p q) (fun r s => [(p : Int), (q : Int), (r : Int), (s : Int)]) d r out) (N : Int) (p : Int) ((q + 1 : Nat) : Int) (N : Int) (p : Int)) res → Ev (fun k => impl_SharesOf.l2 k w out (N : Int) (p : Int) (q : Int) (r : Int) (N : Int) (p : Int)) res := by
  have hle := hw.le
  intro d
  induction d with
  | zero =>
    intro r out hs hrs hb h
    refine Ev_succ ?_
    simp only [impl_SharesOf.l2]
    rw [wS (n := q) (by omega)]
    exact Ev.congr (fun k => if_neg (by omega)) h
  | succ d ih =>
    intro r out hs hrs hb h
    rw [Nat.succ_mul] at hb
    refine Ev_succ ?_
    simp only [impl_SharesOf.l2]
    refine Ev.congr (fun k => if_pos (by omega)) ?_
    rw [wS (by omega)]
    refine implSh_l3 w hw hwf N hN p q r hpq hrs (by omega) res (N - r) (r + 1) out (by omega) (by omega) (by omega) ?_
    have hl := sh3_len (shG w N p q r) (fun s => [(p : Int), (q : Int), (r : Int), (s : Int)]) (N - r) (r + 1) out
    exact ih (r + 1) _ (by omega) (by omega) (by omega) h
theorem implSh_l1 (w : List Int) (hw : Word w) (hwf : ∀ x ∈ w, (Lit.int .i64 x).wf = true) (N : Nat) (hN : N = w.length) (p : Nat) (hp : p < N) (res : List (List Int) × Int) : ∀ (d q : Nat) (out : List (List Int)), q + d = N + 1 → p ≤ q → out.length + d * 200 ≤ 800000 →
    Ev (fun k => impl_SharesOf.l0 k w (sh1 N (shG w N p) (fun q r s => [(p : Int), (q : Int), (r : Int), (s : Int)]) d q out) (N : Int) (N : Int) ((p + 1 : Nat) : Int)) res → Ev (fun k => impl_SharesOf.l1 k w out (N : Int) (p : Int) (q : Int) (N : Int) (p : Int)) res := by
  have hle := hw.le
  intro d
  induction d with
  | zero =>
    intro q out hs hrs hb h
    refine Ev_succ ?_
    simp only [impl_SharesOf.l1]
    rw [wS (n := p) (by omega)]
    exact Ev.congr (fun k => if_neg (by omega)) h
  | succ d ih =>
    intro q out hs hrs hb h
    rw [Nat.succ_mul] at hb
    refine Ev_succ ?_
    simp only [impl_SharesOf.l1]
    refine Ev.congr (fun k => if_pos (by omega)) ?_
    have hl := sh2_len N (by omega) (shG w N p q) (fun r s => [(p : Int), (q : Int), (r : Int), (s : Int)]) (N - q) q out
    refine implSh_l2 w hw hwf N hN p q hrs res (N - q) q out (by omega) (Nat.le_refl _) (by omega) ?_
    exact ih (q + 1) _ (by omega) (by omega) (by omega) h
theorem specSh_l0 (w : List Int) (hw : Word w) (N : Nat) (hN : N = w.length) : ∀ (d p : Nat) (out : List (List Int)), p + d = N → out.length + d * 2400 ≤ 700000 →
    Ev (fun k => spec_l09Shares.l0 k w out (N : Int) (p : Int)) (sh0 N (shG w N) (fun p q r s => [(p : Int), (q : Int), (r : Int), (s : Int)]) d p out) := by
  have hle := hw.le
  intro d
  induction d with
  | zero =>
    intro p out hs hb
    refine Ev_succ ?_
    simp only [spec_l09Shares.l0]
    exact Ev.congr (fun k => if_neg (by omega)) (Ev.now _)
  | succ d ih =>
    intro p out hs hb
    rw [Nat.succ_mul] at hb
    refine Ev_succ ?_
    simp only [spec_l09Shares.l0]
    refine Ev.congr (fun k => if_pos (by omega)) ?_
    rw [wS (by omega), sh0]
    have hl := sh1_len N (by omega) (shG w N p) (fun q r s => [(p : Int), (q : Int), (r : Int), (s : Int)]) (N - p) (p + 1) out
    have h3 : (N - p) * 200 ≤ 2400 := Nat.mul_le_mul_right 200 (show N - p ≤ 12 by omega)
    exact specSh_l1 w hw N hN p (by omega) _ (N - p) (p + 1) out (by omega) (by omega) (by omega) (ih (p + 1) _ (by omega) (by omega))
theorem implSh_l0 (w : List Int) (hw : Word w) (hwf : ∀ x ∈ w, (Lit.int .i64 x).wf = true) (N : Nat) (hN : N = w.length) : ∀ (d p : Nat) (out : List (List Int)), p + d = N → out.length + d * 2400 ≤ 700000 →
    Ev (fun k => impl_SharesOf.l0 k w out (N : Int) (N : Int) (p : Int)) (sh0 N (shG w N) (fun p q r s => [(p : Int), (q : Int), (r : Int), (s : Int)]) d p out, (0 : Int)) := by
  have hle := hw.le
  intro d
  induction d with
  | zero =>
    intro p out hs hb
    refine Ev_succ ?_
    simp only [impl_SharesOf.l0]
    exact Ev.congr (fun k => if_neg (by omega)) (Ev.now _)
  | succ d ih =>
    intro p out hs hb
    rw [Nat.succ_mul] at hb
    refine Ev_succ ?_
    simp only [impl_SharesOf.l0]
    refine Ev.congr (fun k => if_pos (by omega)) ?_
    rw [wS (by omega), sh0]
    have hl := sh1_len N (by omega) (shG w N p) (fun q r s => [(p : Int), (q : Int), (r : Int), (s : Int)]) (N - p) (p + 1) out
    have h3 : (N - p) * 200 ≤ 2400 := Nat.mul_le_mul_right 200 (show N - p ≤ 12 by omega)
    exact implSh_l1 w hw hwf N hN p (by omega) _ (N - p) (p + 1) out (by omega) (by omega) (by omega) (ih (p + 1) _ (by omega) (by omega))
def sharesV (w : List Int) : List (List Int) × Int := if isW w = true then (sharesL w, 0) else ([], 1)
theorem specSha_ev (w : List Int) : Ev (fun k => spec_SharesOf.f k w) (sharesV w) := by
  unfold spec_SharesOf.f sharesV
  refine Ev.bind (is_ev w) ?_
  by_cases h : isW w = true
  · rw [if_pos h]
    have hw := (isW_iff w).1 h
    have hle := hw.le
    refine Ev.congr (fun k => if_pos h) ?_
    exact Ev.bind (specSh_l0 w hw w.length rfl w.length 0 [] (by omega) (by simp; omega)) (Ev.now _)
  · rw [if_neg h]
    exact Ev.congr (fun k => if_neg h) (Ev.now _)
theorem implSha_ev (w : List Int) (hwf : ∀ x ∈ w, (Lit.int .i64 x).wf = true) : Ev (fun k => impl_SharesOf.f k w) (sharesV w) := by
  unfold impl_SharesOf.f sharesV
  refine Ev.bind (isWord_ev w hwf) ?_
  by_cases h : isW w = true
  · rw [if_pos h]
    have hw := (isW_iff w).1 h
    have hle := hw.le
    refine Ev.congr (fun k => if_pos h) ?_
    exact implSh_l0 w hw hwf w.length rfl w.length 0 [] (by omega) (by simp; omega)
  · rw [if_neg h]
    exact Ev.congr (fun k => if_neg h) (Ev.now _)
theorem sharesV_small (w : List Int) : (sharesV w).1.length ≤ 100000 ∧ Four (sharesV w).1 := by
  unfold sharesV
  by_cases h : isW w = true
  · rw [if_pos h]
    have hle := ((isW_iff w).1 h).le
    have h1 := sh0_len w.length hle (shG w w.length) (fun p q r s => [(p : Int), (q : Int), (r : Int), (s : Int)]) w.length 0 []
    refine ⟨?_, sh0_four _ _ _ (fun _ _ _ _ => rfl) _ _ _ (fun r hr => absurd hr (by simp))⟩
    show (sharesL w).length ≤ _
    unfold sharesL
    simp only [List.length_nil] at h1
    omega
  · rw [if_neg h]
    exact ⟨by simp, fun r hr => absurd hr (by simp)⟩
end Go.Proofs.Ytfijnlbkflmkbaa.Pure
