/- Plain laws: the words without crossings as the program makes them, and what they are like. -/
import Derived.Test.YtfijnlbkflmkbaaFgD
import Derived.Test.YtfijnlbkflmkbaaPureD
import Derived.KernelRfl
namespace Go.Proofs.Ytfijnlbkflmkbaa.Pure
open Go.RowKit Go.Proofs.Ytfijnlbkflmkbaa.F Go.Proofs.YtfijnlbkflmkbaaW.PrintWords Go.Proofs.YtfijnlbkflmkbaaW.PrintLast
set_option linter.unusedVariables false
set_option linter.unusedSimpArgs false

/-- A word around another one, and one behind. -/
def fhead (a : List Int) : List Int := nrm (-1 :: (a ++ [-1]))
def fjoin (a b : List Int) : List Int := fhead a ++ b.map fun x => x + (((fhead a).length / 2 : Nat) : Int)
/-- All words of n chords without crossings (f: more than n). -/
def flatF : Nat → Nat → List (List Int)
  | 0, _ => []
  | _ + 1, 0 => [[]]
  | f + 1, n + 1 => (List.range (n + 1)).flatMap fun k => (flatF f k).flatMap fun a => (flatF f (n - k)).map fun b => fjoin a b
theorem flatF_fuel : ∀ (n f g : Nat), n < f → n < g → flatF f n = flatF g n := by
  intro n
  induction n using Nat.strongRecOn with
  | _ n ih =>
    intro f g hf hg
    obtain ⟨f, rfl⟩ : ∃ m, f = m + 1 := ⟨f - 1, by omega⟩
    obtain ⟨g, rfl⟩ : ∃ m, g = m + 1 := ⟨g - 1, by omega⟩
    cases n with
    | zero => rfl
    | succ n =>
      rw [flatF, flatF]
      have key : ∀ l : List Nat, (∀ k ∈ l, k ≤ n) → (l.flatMap fun k => (flatF f k).flatMap fun a => (flatF f (n - k)).map fun b => fjoin a b) = l.flatMap fun k => (flatF g k).flatMap fun a => (flatF g (n - k)).map fun b => fjoin a b := by
        intro l
        induction l with
        | nil => intro _; rfl
        | cons k l ihl =>
          intro h
          have hk := h k List.mem_cons_self
          rw [List.flatMap_cons, List.flatMap_cons, ihl (fun x hx => h x (List.mem_cons_of_mem _ hx)), ih k (by omega) f g (by omega) (by omega), ih (n - k) (by omega) f g (by omega) (by omega)]
      exact key _ (fun k hk => by have := List.mem_range.1 hk; omega)
def flatFine (n : Nat) : Bool := decide ((flatF 7 n).length ≤ 132) && (flatF 7 n).all fun a => decide (a.length = 2 * n) && a.all fun x => decide (0 ≤ x) && decide (x ≤ 6)
theorem flatFine_all : (List.range 7).all flatFine = true := by kernel_rfl
theorem flat_fine {n f : Nat} (hn : n ≤ 6) (hf : n < f) : (flatF f n).length ≤ 132 ∧ ∀ a ∈ flatF f n, a.length = 2 * n ∧ ∀ x ∈ a, 0 ≤ x ∧ x ≤ 6 := by
  have h := List.all_eq_true.1 flatFine_all n (List.mem_range.2 (by omega))
  rw [flatF_fuel n f 7 hf (by omega)]
  unfold flatFine at h
  simp only [Bool.and_eq_true, decide_eq_true_eq, List.all_eq_true] at h
  exact h
theorem okL_head {a : List Int} (hl : a.length ≤ 12) (hx : ∀ x ∈ a, 0 ≤ x ∧ x ≤ 6) : impl_normal.f (-1 :: (a ++ [-1])) = some (fhead a) := by
  unfold impl_normal.f fhead
  rw [if_pos (okL_of (by simp; omega) (fun x hx' => by
    rcases List.mem_cons.1 hx' with rfl | h
    · decide
    · rcases List.mem_append.1 h with g | g
      · have := hx x g
        obtain ⟨m, rfl⟩ := Int.eq_ofNat_of_zero_le this.1
        have hm : m ≤ 6 := by omega
        have : m = 0 ∨ m = 1 ∨ m = 2 ∨ m = 3 ∨ m = 4 ∨ m = 5 ∨ m = 6 := by omega
        rcases this with rfl | rfl | rfl | rfl | rfl | rfl | rfl <;> decide
      · rw [List.mem_singleton] at g; subst g; decide))]
theorem fhead_len (a : List Int) : (fhead a).length = a.length + 2 := by unfold fhead; rw [nrm_len]; simp
theorem join_ev (a b : List Int) (ha : a.length ≤ 14) (hb : b.length ≤ 12) (hx : ∀ x ∈ b, 0 ≤ x ∧ x ≤ 6) : Ev (fun k => impl_join.f k a b) (a ++ b.map fun x => x + ((a.length / 2 : Nat) : Int)) := by
  unfold impl_join.f slices_Clone_int64_int64.f
  rw [if_pos (by omega)]
  refine Ev.congr (fun k => Option.bind_some _ _) ?_
  have hch : impl_chords.f a = some ((a.length / 2 : Nat) : Int) := by
    unfold impl_chords.f
    rw [show wrap64 ((a.length : Int) / 2) = ((a.length / 2 : Nat) : Int) from by unfold wrap64; omega]
  have key : ∀ d n, n + d = b.length → Ev (fun k => impl_join.l0 k a (a ++ (b.take n).map fun x => x + ((a.length / 2 : Nat) : Int)) b (b.length : Int) (n : Int)) (a ++ b.map fun x => x + ((a.length / 2 : Nat) : Int)) := by
    intro d
    induction d with
    | zero =>
      intro n hn
      refine Ev_succ ?_
      simp only [impl_join.l0]
      rw [List.take_of_length_le (by omega)]
      exact Ev.congr (fun k => if_neg (by omega)) (Ev.now _)
    | succ d ih =>
      intro n hn
      have hh := ih (n + 1) (by omega)
      refine Ev_succ ?_
      simp only [impl_join.l0]
      refine Ev.congr (fun k => if_pos (by omega)) (Ev.congr (fun k => if_pos (by omega)) (Ev.congr (fun k => if_pos (by omega)) ?_))
      rw [hch]
      refine Ev.congr (fun k => Option.bind_some _ _) ?_
      refine Ev.congr (fun k => if_pos (by simp only [List.length_append, List.length_map, List.length_take]; omega)) ?_
      rw [rdN, wS (by omega)]
      have hnl : n < b.length := by omega
      have hg : b.getD n 0 = b[n] := by rw [List.getD_eq_getElem?_getD, List.getElem?_eq_getElem hnl]; rfl
      have hb6 := hx b[n] (List.getElem_mem _)
      rw [hg, show wrap64 (b[n] + ((a.length / 2 : Nat) : Int)) = b[n] + ((a.length / 2 : Nat) : Int) from by unfold wrap64; omega]
      rw [List.take_succ_eq_append_getElem hnl, List.map_append, ← List.append_assoc] at hh
      exact hh
  have := key b.length 0 (by omega)
  simpa using this
end Go.Proofs.Ytfijnlbkflmkbaa.Pure
