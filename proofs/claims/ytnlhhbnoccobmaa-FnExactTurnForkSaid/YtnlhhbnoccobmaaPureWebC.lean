/- Plain laws: whether something is a web, as a function that can be reckoned. -/
import Derived.Test.YtnlhhbnoccobmaaPureWeb
namespace Go.Proofs.Ytnlhhbnoccobmaa.Web
set_option linter.unusedVariables false
set_option linter.unusedSimpArgs false

def roundC (I : List (Int × Nat)) (out : List Nat) : List Nat := (I.map fun p => p.1).foldl (relax I) out
def partsC (I : List (Int × Nat)) (n : Nat) : Nat → List Nat
  | 0 => List.range n
  | t + 1 => roundC I (partsC I n t)
theorem partsC_rounds (I : List (Int × Nat)) (n : Nat) : ∀ t, Rounds I n t (partsC I n t)
  | 0 => .zero
  | t + 1 => .succ (partsC_rounds I n t) ⟨_, fun e => by
      rw [List.mem_map]
      exact ⟨fun ⟨p, hp, he⟩ => ⟨p.2, by rw [← he]; exact hp⟩, fun ⟨u, hu⟩ => ⟨_, hu, rfl⟩⟩, rfl⟩
theorem partsC_lbl {I : List (Int × Nat)} {n : Nat} (h : Two I n) : partsC I n n = (List.range n).map (lbl I) := rounds_lbl h (partsC_rounds I n n)
def isWebC (legs : List Int) (forks : List (List Int)) : Bool := decide (legs.length + forks.length ≤ 8) && (forks.all fun f => f.length == 3) && twiceB legs forks && (partsC (inc legs forks) (legs.length + forks.length) (legs.length + forks.length)).all fun r => decide (r < legs.length)
theorem isWebC_eq (legs : List Int) (forks : List (List Int)) : isWebC legs forks = isWebB legs forks := by
  unfold isWebC isWebB
  cases ht : twiceB legs forks with
  | false => simp
  | true =>
    rw [partsC_lbl (twice_two ht), List.all_map]
    rfl
theorem web_of {legs : List Int} {forks : List (List Int)} (h : isWebC legs forks = true) : legs.length + forks.length ≤ 8 ∧ (∀ f ∈ forks, f.length = 3) ∧ twiceB legs forks = true ∧ rootedB legs forks = true := by
  rw [isWebC_eq] at h
  unfold isWebB at h
  simp only [Bool.and_eq_true, decide_eq_true_eq] at h
  exact ⟨h.1.1.1, fun f hf => eq_of_beq (List.all_eq_true.1 h.1.1.2 f hf), h.1.2, h.2⟩
/-- A fork turned round. -/
def turnRow (f : List Int) : List Int := (f.set 1 (f.getD 2 0)).set 2 (f.getD 1 0)
end Go.Proofs.Ytnlhhbnoccobmaa.Web
