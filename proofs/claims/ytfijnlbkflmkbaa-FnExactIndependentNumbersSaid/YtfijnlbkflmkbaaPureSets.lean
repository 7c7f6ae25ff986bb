/- Plain laws: what CliqueNumbers and IndependentNumbers come to on both sides. -/
import Derived.Test.YtfijnlbkflmkbaaFx121
import Derived.Test.YtfijnlbkflmkbaaFx123
import Derived.Test.YtfijnlbkflmkbaaFx163
import Derived.Test.YtfijnlbkflmkbaaPureE
import Derived.Test.YtfijnlbkflmkbaaPureBits
namespace Go.Proofs.Ytfijnlbkflmkbaa.Pure
open Go.RowKit Go.Proofs.Ytfijnlbkflmkbaa.F Go.Proofs.Ytfijnlbkflmkbaa.Mem Go.Proofs.YtfijnlbkflmkbaaW.PrintWords Go.Proofs.YtfijnlbkflmkbaaW.PrintLast
set_option linter.unusedVariables false
set_option linter.unusedSimpArgs false

theorem rd_rowsS {w : List Int} {i : Nat} (hi : i < w.length / 2) : rd_L1 (rowsOf w) (i : Int) = rowTo w i (w.length / 2) := by
  unfold rd_L1; rw [Int.toNat_natCast]; exact rowsOf_get hi
theorem okTo_app (X : Nat → Nat → Bool) (c : Bool) (l t : List Nat) : ∀ m, m ≤ l.length → okTo X c (l ++ t) m = okTo X c l m
  | 0, _ => rfl
  | m + 1, h => by
    rw [okTo, okTo, okTo_app X c l t m (by omega), List.take_append_of_le_length (by omega), List.getD_eq_getElem?_getD, List.getElem?_append_left (by omega), ← List.getD_eq_getElem?_getD]
theorem okTo_snoc (X : Nat → Nat → Bool) (c : Bool) (l : List Nat) (i : Nat) : okTo X c (l ++ [i]) (l ++ [i]).length = (okTo X c l l.length && !(l.any fun b => X i b != c)) := by
  rw [List.length_append, List.length_singleton, okTo, okTo_app X c l [i] _ (Nat.le_refl _), List.take_left]
  congr 3
  rw [List.getD_eq_getElem?_getD, List.getElem?_append_right (Nat.le_refl _), Nat.sub_self]; rfl
/-- Whether the chords of a set below i fit. -/
def okS (X : Nat → Nat → Bool) (c : Bool) (s i : Nat) : Bool := okTo X c (setTo s i) (setTo s i).length
theorem okS_succ (X : Nat → Nat → Bool) (c : Bool) (s i : Nat) : okS X c s (i + 1) = if s.testBit i = true then (okS X c s i && !((setTo s i).any fun b => X i b != c)) else okS X c s i := by
  unfold okS
  rw [setTo_succ]
  split
  · exact okTo_snoc X c _ i
  · rfl
theorem ent_is (w : List Int) (c : Bool) (i k : Nat) : (ent w i k == (if c = true then 1 else 0)) = (crossB w i k == c) := by
  unfold ent
  cases crossB w i k <;> cases c <;> rfl
theorem sets_l2 (w : List Int) (hw : Word w) (n : Nat) (hn : n = w.length / 2) (c : Bool) (out : List Int) (s : Nat) (hs : s < 64) (cnt : Nat) (i : Nat) (hi : i < n) (r : List Int)
    (hr : Ev (fun k => spec_l10Sets.l1 k (if c = true then 1 else 0) (n : Int) (rowsOf w) out (s : Int) (okS (crossB w) c s i && !((setTo s i).any fun b => crossB w i b != c)) (cnt : Int) ((i + 1 : Nat) : Int)) r) :
    Ev (fun k => spec_l10Sets.l2 k (if c = true then 1 else 0) (n : Int) (rowsOf w) out (s : Int) (okS (crossB w) c s i) (cnt : Int) (i : Int) 0) r := by
  have hle := hw.le
  have hl : (rowsOf w).length = n := by rw [hn]; exact rowsTo_len w _
  have key : ∀ q k, k + q = i → Ev (fun m => spec_l10Sets.l2 m (if c = true then 1 else 0) (n : Int) (rowsOf w) out (s : Int) (okS (crossB w) c s i && !((setTo s k).any fun b => crossB w i b != c)) (cnt : Int) (i : Int) (k : Int)) r := by
    intro q
    induction q with
    | zero =>
      intro k hk
      obtain rfl : k = i := by omega
      refine Ev_succ ?_
      simp only [spec_l10Sets.l2]
      refine Ev.congr (fun m => if_neg (by omega)) ?_
      rw [wS (by omega)]
      exact hr
    | succ q ihq =>
      intro k hk
      have hh := ihq (k + 1) (by omega)
      rw [setTo_succ] at hh
      refine Ev_succ ?_
      simp only [spec_l10Sets.l2]
      refine Ev.congr (fun m => if_pos (by omega)) ?_
      rw [u64_nat k (by omega), bit_at s k (by omega) (by omega), rd_rowsS (show i < _ by omega), rowTo_len, rdN, rowTo_get (by omega), ent_is, wS (by omega)]
      by_cases hb : s.testBit k = true
      · rw [if_pos hb, List.any_append] at hh
        by_cases hx : (okS (crossB w) c s i && !((setTo s k).any fun b => crossB w i b != c)) = true
        · have hx2 := (Bool.and_eq_true_iff.1 hx)
          have hx3 : ((setTo s k).any fun b => crossB w i b != c) = false := by simpa using hx2.2
          rw [hx2.1, hx3, Bool.true_and, Bool.false_or] at hh
          refine Ev.congr (fun m => if_pos hx) (Ev.congr (fun m => if_pos (by omega)) (Ev.congr (fun m => if_neg (by rw [if_pos hb]; decide)) ?_))
          refine Ev.congr (fun m => if_pos (by omega)) (Ev.congr (fun m => if_pos (by omega)) (Ev.congr (fun m => if_pos (by omega)) (Ev.congr (fun m => if_pos (by omega)) ?_)))
          rw [show (crossB w i k == c) = !([k].any fun b => crossB w i b != c) from by simp only [List.any_cons, List.any_nil, Bool.or_false]; cases crossB w i k <;> cases c <;> rfl]
          exact hh
        · rw [show (okS (crossB w) c s i && !(((setTo s k).any fun b => crossB w i b != c) || [k].any fun b => crossB w i b != c)) = false from by
            cases h1 : okS (crossB w) c s i <;> cases h2 : ((setTo s k).any fun b => crossB w i b != c) <;> simp [h1, h2] at hx ⊢] at hh
          exact Ev.congr (fun m => if_neg hx) hh
      · rw [if_neg hb] at hh
        by_cases hx : (okS (crossB w) c s i && !((setTo s k).any fun b => crossB w i b != c)) = true
        · rw [hx] at hh
          exact Ev.congr (fun m => if_pos hx) (Ev.congr (fun m => if_pos (by omega)) (Ev.congr (fun m => if_pos (by rw [if_neg hb])) hh))
        · rw [show (okS (crossB w) c s i && !((setTo s k).any fun b => crossB w i b != c)) = false from by simpa using hx] at hh
          exact Ev.congr (fun m => if_neg hx) hh
  have := key i 0 (by omega)
  rw [show setTo s 0 = [] from rfl, List.any_nil, Bool.not_false, Bool.and_true] at this
  exact this
theorem sets_l1 (w : List Int) (hw : Word w) (n : Nat) (hn : n = w.length / 2) (c : Bool) (out : List Int) (ho : out.length = n + 1) (s : Nat) (hs : s < 64) (r : List Int)
    (hr : Ev (fun k => spec_l10Sets.l0 k (if c = true then 1 else 0) (n : Int) (rowsOf w) (bump (crossB w) c (setTo s n) out) ((s + 1 : Nat) : Int)) r) :
    Ev (fun k => spec_l10Sets.l1 k (if c = true then 1 else 0) (n : Int) (rowsOf w) out (s : Int) true 0 0) r := by
  have hle := hw.le
  have key : ∀ q i, i + q = n → Ev (fun m => spec_l10Sets.l1 m (if c = true then 1 else 0) (n : Int) (rowsOf w) out (s : Int) (okS (crossB w) c s i) ((setTo s i).length : Int) (i : Int)) r := by
    intro q
    induction q with
    | zero =>
      intro i hi
      obtain rfl : i = n := by omega
      have hsl := setTo_le s i
      refine Ev_succ ?_
      simp only [spec_l10Sets.l1]
      refine Ev.congr (fun m => if_neg (by omega)) ?_
      unfold bump at hr
      rw [wS (by omega)]
      by_cases hx : okS (crossB w) c s i = true
      · rw [if_pos (show okTo (crossB w) c (setTo s i) (setTo s i).length = true from hx)] at hr
        refine Ev.congr (fun m => if_pos hx) (Ev.congr (fun m => if_pos (by omega)) (Ev.congr (fun m => if_pos (by omega)) ?_))
        rw [rdN, Int.toNat_natCast]
        exact hr
      · rw [if_neg (show ¬ okTo (crossB w) c (setTo s i) (setTo s i).length = true from hx)] at hr
        exact Ev.congr (fun m => if_neg hx) hr
    | succ q ihq =>
      intro i hi
      have hh := ihq (i + 1) (by omega)
      have hsl := setTo_le s i
      rw [okS_succ, setTo_succ] at hh
      refine Ev_succ ?_
      simp only [spec_l10Sets.l1]
      refine Ev.congr (fun m => if_pos (by omega)) ?_
      rw [u64_nat i (by omega), bit_at s i (by omega) (by omega), wS (by omega), wS (by omega)]
      refine Ev.congr (fun m => if_pos (by omega)) ?_
      by_cases hb : s.testBit i = true
      · rw [if_pos hb, if_pos hb, List.length_append, List.length_singleton] at hh
        refine Ev.congr (fun m => if_neg (by rw [if_pos hb]; decide)) ?_
        exact sets_l2 w hw n hn c out s hs _ i (by omega) r hh
      · rw [if_neg hb, if_neg hb] at hh
        exact Ev.congr (fun m => if_pos (by rw [if_neg hb])) hh
  exact key n 0 (by omega)
theorem ssets_ev (w : List Int) (hw : Word w) (c : Bool) : Ev (fun k => spec_l10Sets.f k w (if c = true then 1 else 0)) (setsV w c) := by
  have hle := hw.le
  obtain ⟨n, hn⟩ : ∃ n, n = w.length / 2 := ⟨_, rfl⟩
  have hn6 : n ≤ 6 := by omega
  have hN : 2 ^ n ≤ 64 := Nat.le_trans (Nat.pow_le_pow_right (by decide) hn6) (by decide)
  unfold spec_l10Sets.f setsV
  refine Ev.bind (srows_ev w hw) ?_
  have e1 : wrap64 ((w.length : Int) / 2) = (n : Int) := by unfold wrap64; omega
  have e2 : wrap64 ((n : Int) + 1) = ((n + 1 : Nat) : Int) := wS (by omega)
  rw [e1, e2, Int.toNat_natCast, ← hn]
  refine Ev.congr (fun k => if_pos (by omega)) (Ev.congr (fun k => if_pos (by omega)) ?_)
  have key : ∀ q s, s + q = 2 ^ n → Ev (fun k => spec_l10Sets.l0 k (if c = true then 1 else 0) (n : Int) (rowsOf w) (numsTo (crossB w) c n s) (s : Int)) (numsTo (crossB w) c n (2 ^ n)) := by
    intro q
    induction q with
    | zero =>
      intro s hs
      obtain rfl : s = 2 ^ n := by omega
      refine Ev_succ ?_
      simp only [spec_l10Sets.l0]
      rw [u64_nat n (by omega), shl_nat n (by omega)]
      exact Ev.congr (fun k => if_pos (by omega)) (Ev.congr (fun k => if_neg (by omega)) (Ev.now _))
    | succ q ihq =>
      intro s hs
      have hh := ihq (s + 1) (by omega)
      refine Ev_succ ?_
      simp only [spec_l10Sets.l0]
      rw [u64_nat n (by omega), shl_nat n (by omega)]
      refine Ev.congr (fun k => if_pos (by omega)) (Ev.congr (fun k => if_pos (by omega)) ?_)
      exact sets_l1 w hw n hn c _ (numsTo_len _ _ _ _) s (by omega) _ hh
  exact key (2 ^ n) 0 (by omega)
/-- The sets of each size all pairs of which cross, or do not. -/
def setsB (c : Bool) (w : List Int) : List Int × Int := if isW w = true then (setsV w c, 0) else ([], 1)
theorem setsB_len (c : Bool) (w : List Int) : (setsB c w).1.length ≤ 1048576 := by
  unfold setsB
  split
  · rename_i h
    have := ((isW_iff w).1 h).le
    unfold setsV
    show (numsTo (crossB w) c (w.length / 2) _).length ≤ _
    rw [numsTo_len]; omega
  · simp
end Go.Proofs.Ytfijnlbkflmkbaa.Pure
