/- Plain laws: what CrossingDegrees comes to on both sides. -/
import Derived.Test.YtfijnlbkflmkbaaFx38
import Derived.Test.YtfijnlbkflmkbaaFx44
import Derived.Test.YtfijnlbkflmkbaaFx45
import Derived.Test.YtfijnlbkflmkbaaFx46
import Derived.Test.YtfijnlbkflmkbaaPureE
namespace Go.Proofs.Ytfijnlbkflmkbaa.Pure
open Go.RowKit Go.Proofs.Ytfijnlbkflmkbaa.F Go.Proofs.YtfijnlbkflmkbaaW.PrintWords Go.Proofs.YtfijnlbkflmkbaaW.PrintLast

def degTo (w : List Int) (i : Nat) : Nat → Nat
  | 0 => 0
  | m + 1 => degTo w i m + (if crossB w i m = true then 1 else 0)
theorem degTo_le (w : List Int) (i : Nat) : ∀ m, degTo w i m ≤ m
  | 0 => Nat.le_refl _
  | m + 1 => by have := degTo_le w i m; rw [degTo]; split <;> omega
def degsTo (w : List Int) (n : Nat) : List Int := (List.range n).map fun i => (degTo w i (w.length / 2) : Int)
theorem degsTo_len (w : List Int) (n : Nat) : (degsTo w n).length = n := by simp [degsTo]
theorem degsTo_succ (w : List Int) (n : Nat) : degsTo w (n + 1) = degsTo w n ++ [(degTo w n (w.length / 2) : Int)] := by unfold degsTo; rw [List.range_succ, List.map_append]; rfl
theorem wD (w : List Int) (i m : Nat) (hm : m < 4611686018427387904) : wrap64 ((degTo w i m : Int) + ent w i m) = (degTo w i (m + 1) : Int) := by
  have := degTo_le w i m
  rw [degTo]; unfold ent wrap64
  split <;> omega
theorem rd_rowsD {w : List Int} {i : Nat} (hi : i < w.length / 2) : rd_L1 (rowsOf w) (i : Int) = rowTo w i (w.length / 2) := by
  unfold rd_L1; rw [Int.toNat_natCast]; exact rowsOf_get hi
theorem sdeg_l1 (w : List Int) (hle : w.length ≤ 12) (out : List Int) (i : Nat) (hi : i < w.length / 2) (r : List Int × Int) (hr : Ev (fun k => if out.length < 17592186044416 then spec_CrossingDegrees.l0 k (rowsOf w) (out ++ [(degTo w i (w.length / 2) : Int)]) ((i + 1 : Nat) : Int) else none) r) :
    ∀ d m, m + d = w.length / 2 → Ev (fun k => spec_CrossingDegrees.l1 k (rowsOf w) out (i : Int) (degTo w i m : Int) (m : Int)) r := by
  have hl : (rowsOf w).length = w.length / 2 := rowsTo_len w _
  intro d
  induction d with
  | zero =>
    intro m hm
    refine Ev.step (fun k => ?_) hr
    simp only [spec_CrossingDegrees.l1]
    rw [if_neg (by omega), wS (by omega), show m = w.length / 2 from by omega]
  | succ d ih =>
    intro m hm
    refine Ev.step (fun k => ?_) (ih (m + 1) (by omega))
    simp only [spec_CrossingDegrees.l1]
    rw [if_pos (by omega), if_pos (by omega), if_pos (by omega), if_pos (by omega), rd_rowsD hi, if_pos (by rw [rowTo_len]; omega), rdN, rowTo_get (by omega), wS (by omega), wD w i m (by omega)]
theorem sdeg_l0 (w : List Int) (hle : w.length ≤ 12) : ∀ d n, n + d = w.length / 2 → Ev (fun k => spec_CrossingDegrees.l0 k (rowsOf w) (degsTo w n) (n : Int)) (degsTo w (w.length / 2), 0) := by
  have hl : (rowsOf w).length = w.length / 2 := rowsTo_len w _
  intro d
  induction d with
  | zero =>
    intro n hn
    refine Ev.step (f := fun _ => some _) (fun k => ?_) (Ev.now _)
    simp only [spec_CrossingDegrees.l0]; rw [if_neg (by omega), show n = w.length / 2 from by omega]
  | succ d ih =>
    intro n hn
    have hd := degsTo_len w n
    refine Ev.step (f := fun k => spec_CrossingDegrees.l1 k (rowsOf w) (degsTo w n) (n : Int) (degTo w n 0 : Int) ((0 : Nat) : Int)) (fun k => ?_) ?_
    · simp only [spec_CrossingDegrees.l0]; rw [if_pos (by omega)]; rfl
    · exact sdeg_l1 w hle _ n (by omega) _ (Ev.congr (fun k => if_pos (by omega)) (by have h := ih (n + 1) (by omega); rw [degsTo_succ] at h; exact h)) (w.length / 2) 0 (by omega)
theorem ideg_l1 (w : List Int) (hle : w.length ≤ 12) (out : List Int) (i : Nat) (hi : i < w.length / 2) (r : List Int) (hr : Ev (fun k => if out.length < 17592186044416 then impl_degrees.l0 k (out ++ [(degTo w i (w.length / 2) : Int)]) (rowsOf w) ((w.length / 2 : Nat) : Int) ((i + 1 : Nat) : Int) else none) r) :
    ∀ d m, m + d = w.length / 2 → Ev (fun k => impl_degrees.l1 k out (degTo w i m : Int) (rowsOf w) ((w.length / 2 : Nat) : Int) (i : Int) (rowTo w i (w.length / 2)) ((w.length / 2 : Nat) : Int) (m : Int)) r := by
  intro d
  induction d with
  | zero =>
    intro m hm
    refine Ev.step (fun k => ?_) hr
    simp only [impl_degrees.l1]
    rw [if_neg (by omega), wS (by omega), show m = w.length / 2 from by omega]
  | succ d ih =>
    intro m hm
    refine Ev.step (fun k => ?_) (ih (m + 1) (by omega))
    simp only [impl_degrees.l1]
    rw [if_pos (by omega), if_pos (by omega), if_pos (by rw [rowTo_len]; omega), rdN, rowTo_get (by omega), wS (by omega), wD w i m (by omega)]
theorem ideg_l0 (w : List Int) (hle : w.length ≤ 12) : ∀ d n, n + d = w.length / 2 → Ev (fun k => impl_degrees.l0 k (degsTo w n) (rowsOf w) ((w.length / 2 : Nat) : Int) (n : Int)) (degsTo w (w.length / 2)) := by
  have hl : (rowsOf w).length = w.length / 2 := rowsTo_len w _
  intro d
  induction d with
  | zero =>
    intro n hn
    refine Ev.step (f := fun _ => some _) (fun k => ?_) (Ev.now _)
    simp only [impl_degrees.l0]; rw [if_neg (by omega), show n = w.length / 2 from by omega]
  | succ d ih =>
    intro n hn
    have hd := degsTo_len w n
    refine Ev.step (f := fun k => impl_degrees.l1 k (degsTo w n) (degTo w n 0 : Int) (rowsOf w) ((w.length / 2 : Nat) : Int) (n : Int) (rowTo w n (w.length / 2)) ((w.length / 2 : Nat) : Int) ((0 : Nat) : Int)) (fun k => ?_) ?_
    · simp only [impl_degrees.l0]; rw [if_pos (by omega), if_pos (by omega), if_pos (by omega), rd_rowsD (by omega), rowTo_len]; rfl
    · exact ideg_l1 w hle _ n (by omega) _ (Ev.congr (fun k => if_pos (by omega)) (by have h := ih (n + 1) (by omega); rw [degsTo_succ] at h; exact h)) (w.length / 2) 0 (by omega)
theorem degrees_ev (w : List Int) (hw : Word w) : Ev (fun k => impl_degrees.f k w) (degsTo w (w.length / 2)) := by
  have hl : (rowsOf w).length = w.length / 2 := rowsTo_len w _
  unfold impl_degrees.f
  refine Ev.bind (irows_ev w hw) ?_
  exact Ev.congr (fun k => by rw [hl]; rfl) (ideg_l0 w hw.le (w.length / 2) 0 (by omega))
def degV (w : List Int) : List Int × Int := if isW w = true then (degsTo w (w.length / 2), 0) else ([], 1)
theorem specDeg_ev (w : List Int) : Ev (fun k => spec_CrossingDegrees.f k w) (degV w) := by
  unfold spec_CrossingDegrees.f degV
  refine Ev.bind (is_ev w) ?_
  by_cases h : isW w = true
  · rw [if_pos h]
    have hw := (isW_iff w).1 h
    exact Ev.congr (fun k => if_pos h) (Ev.bind (srows_ev w hw) (sdeg_l0 w hw.le (w.length / 2) 0 (by omega)))
  · rw [if_neg h]
    exact Ev.congr (fun k => if_neg h) (Ev.now _)
theorem degreesOf_ev (w : List Int) (hwf : ∀ x ∈ w, (Lit.int .i64 x).wf = true) : Ev (fun k => impl_DegreesOf.f k w) (degV w) := by
  unfold impl_DegreesOf.f degV
  refine Ev.bind (isWord_ev w hwf) ?_
  by_cases h : isW w = true
  · rw [if_pos h]
    exact Ev.congr (fun k => if_pos h) (Ev.bind (degrees_ev w ((isW_iff w).1 h)) (Ev.now _))
  · rw [if_neg h]
    exact Ev.congr (fun k => if_neg h) (Ev.now _)
theorem implDeg_ev (w : List Int) (hwf : ∀ x ∈ w, (Lit.int .i64 x).wf = true) : Ev (fun k => impl_CrossingDegrees.f k w) (degV w) := by
  unfold impl_CrossingDegrees.f
  exact Ev.bind (degreesOf_ev w hwf) (Ev.now _)
theorem degV_len (w : List Int) : (degV w).1.length ≤ 1048576 := by
  unfold degV
  split
  · rename_i h
    have := ((isW_iff w).1 h).le
    rw [degsTo_len]; omega
  · simp
end Go.Proofs.Ytfijnlbkflmkbaa.Pure
