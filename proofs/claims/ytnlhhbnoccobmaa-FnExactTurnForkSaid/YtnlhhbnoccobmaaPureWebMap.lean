/- Plain laws: the map of a web's edges with the places where they stand, as the walk fills it. -/
import Derived.Test.YtnlhhbnoccobmaaPureWeb
import Derived.Maps.OwnRows
import Derived.Maps.OwnSet
import Derived.Maps.RangeWalk
namespace Go.Proofs.Ytnlhhbnoccobmaa.Web
open Go.RowKit Go.ChangeShapes Go.Proofs.Ytnlhhbnoccobmaa.Mem
set_option linter.unusedVariables false
set_option linter.unusedSimpArgs false

def keyL (e : Int) : Lit := .int .i64 e
def valD (l : List Nat) : DataW Unit := .slice (lits .i64 (ints l)) []
theorem ends_snoc (L : List (Int × Nat)) (e' e : Int) (u : Nat) : ends (L ++ [(e', u)]) e = if e' = e then ends L e ++ [u] else ends L e := by
  unfold ends
  rw [List.filter_append, List.map_append]
  by_cases h : e' = e
  · rw [if_pos h, List.filter_cons_of_pos (by simpa using h)]; rfl
  · rw [if_neg h, List.filter_cons_of_neg (by simpa using h)]; simp
theorem take_snocD {α : Type} (I : List α) (p : Nat) (d : α) (h : p < I.length) : I.take (p + 1) = I.take p ++ [I.getD p d] := by
  rw [List.take_succ_eq_append_getElem h, List.getD_eq_getElem?_getD, List.getElem?_eq_getElem h]; rfl
def GTo (I : List (Int × Nat)) : Nat → DataW Unit
  | 0 => .map []
  | p + 1 => (GTo I p).put (keyL (I.getD p (0, 0)).1) (valD (ends (I.take (p + 1)) (I.getD p (0, 0)).1))
theorem GTo_isMap (I : List (Int × Nat)) : ∀ p, Maps.IsMap (GTo I p)
  | 0 => Maps.isMap_empty
  | p + 1 => (GTo_isMap I p).put _ _
theorem key_ne {e e' : Int} (h : e ≠ e') : keyL e ≠ keyL e' := fun g => h (by unfold keyL at g; injection g)
theorem GTo_at (I : List (Int × Nat)) (e : Int) (z : DataW Unit) : ∀ p, p ≤ I.length → (GTo I p).atKey (keyL e) z = if ends (I.take p) e = [] then z else valD (ends (I.take p) e)
  | 0, _ => rfl
  | p + 1, hp => by
    have ih := GTo_at I e z p (by omega)
    rw [GTo]
    obtain ⟨⟨e', u⟩, hq⟩ : ∃ q, q = I.getD p (0, 0) := ⟨_, rfl⟩
    have ht := take_snocD I p (0, 0) (by omega)
    rw [← hq] at ht ⊢
    by_cases h : e' = e
    · subst h
      rw [Maps.atKey_put_same (GTo_isMap I p) (show WideAt.IsKeyLit (keyL e') from trivial), ht, ends_snoc, if_pos rfl, if_neg (by simp)]
    · rw [Maps.atKey_put_other (key_ne (Ne.symm h)), ih, ht, ends_snoc, if_neg h]
theorem GTo_has (I : List (Int × Nat)) (e : Int) : ∀ p, p ≤ I.length → Maps.has (GTo I p) (keyL e) = !(ends (I.take p) e).isEmpty
  | 0, _ => rfl
  | p + 1, hp => by
    have ih := GTo_has I e p (by omega)
    rw [GTo]
    obtain ⟨⟨e', u⟩, hq⟩ : ∃ q, q = I.getD p (0, 0) := ⟨_, rfl⟩
    have ht := take_snocD I p (0, 0) (by omega)
    rw [← hq] at ht ⊢
    by_cases h : e' = e
    · subst h
      rw [Maps.has_put_same (GTo_isMap I p) (show WideAt.IsKeyLit (keyL e') from trivial), ht, ends_snoc, if_pos rfl]; simp
    · rw [Maps.has_put_other (key_ne (Ne.symm h)), ih, ht, ends_snoc, if_neg h]
theorem lits_inj {l m : List Int} (h : (lits .i64 l : List (DataW Unit)) = lits .i64 m) : l = m := (List.map_inj_right (fun a b hab => by injection hab with hab; injection hab)).1 h
/-- What stands at a key is what was gathered of it. -/
theorem GTo_zs {w : World} {base e0 : Nat} {v : Value} {zs : List Int} {I : List (Int × Nat)} {p : Nat} {e : Int} (hp : p ≤ I.length) (hoi : w.ownsInts base e0 .i64 v zs) (hat : (GTo I p).atKey (keyL e) .nil = rowDatum .i64 v zs) : zs = ints (ends (I.take p) e) := by
  rw [GTo_at I e .nil p hp] at hat
  by_cases h : ends (I.take p) e = []
  · rw [if_pos h] at hat
    rcases hoi.datum (H := Unit) with ⟨_, h0⟩ | h1
    · rw [h0, h]; rfl
    · rw [h1] at hat; cases hat
  · rw [if_neg h] at hat
    rcases hoi.datum (H := Unit) with ⟨h1, _⟩ | h1
    · rw [h1] at hat; cases hat
    · rw [h1] at hat
      unfold valD at hat
      injection hat with hat _
      exact (lits_inj hat).symm
theorem GTo_step {w : World} {base e0 : Nat} {v' : Value} {zs : List Int} {I : List (Int × Nat)} {p : Nat} {e : Int} {u : Nat} (hp : p < I.length) (hI : I.getD p (0, 0) = (e, u)) (hz : zs = ints (ends (I.take p) e)) (hoi : w.ownsInts base e0 .i64 v' (zs ++ [(u : Int)])) : GTo I (p + 1) = (GTo I p).put (keyL e) (rowDatum .i64 v' (zs ++ [(u : Int)])) := by
  rw [GTo, hI, hoi.datum_pos (by simp), take_snocD I p (0, 0) hp, hI]
  unfold valD
  rw [ends_snoc, if_pos rfl, ints_app, hz]; rfl
/-! ### which pair comes when -/
theorem inc_leg {legs : List Int} {forks : List (List Int)} {k : Nat} (h : k < legs.length) : (inc legs forks).getD k (0, 0) = (legs.getD k 0, k) := by
  unfold inc
  rw [List.getD_eq_getElem?_getD, List.getElem?_append_left (by simpa using h), List.getElem?_zipIdx, List.getElem?_eq_getElem h, List.getD_eq_getElem?_getD, List.getElem?_eq_getElem h]; simp
theorem flat3 : ∀ (F : List (List Int)) (s i k : Nat), (∀ f ∈ F, f.length = 3) → i < F.length → k < 3 → ((F.zipIdx s).flatMap fun p => p.1.map fun e => (e, p.2))[3 * i + k]? = some ((F.getD i []).getD k 0, s + i)
  | [], _, i, _, _, h, _ => absurd h (by simp)
  | f :: F, s, 0, k, h3, _, hk => by
    have hf := h3 f List.mem_cons_self
    rw [List.zipIdx_cons, List.flatMap_cons, List.getElem?_append_left (by simp; omega)]
    rw [List.getElem?_map, List.getElem?_eq_getElem (by simp; omega)]
    simp [List.getElem?_eq_getElem (show k < f.length from by omega)]
  | f :: F, s, i + 1, k, h3, hi, hk => by
    have hf := h3 f List.mem_cons_self
    rw [List.zipIdx_cons, List.flatMap_cons, List.getElem?_append_right (by simp; omega)]
    have := flat3 F (s + 1) i k (fun g hg => h3 g (List.mem_cons_of_mem _ hg)) (by simpa using hi) hk
    rw [show 3 * (i + 1) + k - (List.map (fun e => (e, (f, s).2)) (f, s).1).length = 3 * i + k from by simp; omega, this]
    simp; omega
theorem inc_fork {legs : List Int} {forks : List (List Int)} {i k : Nat} (h3 : ∀ f ∈ forks, f.length = 3) (hi : i < forks.length) (hk : k < 3) : (inc legs forks).getD (legs.length + 3 * i + k) (0, 0) = ((forks.getD i []).getD k 0, legs.length + i) := by
  unfold inc
  rw [List.getD_eq_getElem?_getD, List.getElem?_append_right (by simp; omega), show legs.length + 3 * i + k - legs.zipIdx.length = 3 * i + k from by simp; omega, flat3 forks legs.length i k h3 hi hk]; rfl
theorem inc_len {legs : List Int} {forks : List (List Int)} (h3 : ∀ f ∈ forks, f.length = 3) : (inc legs forks).length = legs.length + 3 * forks.length := by
  have : ∀ (F : List (List Int)) (s : Nat), (∀ f ∈ F, f.length = 3) → ((F.zipIdx s).flatMap fun p => p.1.map fun e => (e, p.2)).length = 3 * F.length := by
    intro F
    induction F with
    | nil => intro _ _; rfl
    | cons f F ih => intro s h; rw [List.zipIdx_cons, List.flatMap_cons, List.length_append, ih (s + 1) (fun g hg => h g (List.mem_cons_of_mem _ hg)), List.length_map, h f List.mem_cons_self, List.length_cons]; omega
  unfold inc
  rw [List.length_append, this forks legs.length h3, List.length_zipIdx]
theorem wf_at {I : List (Int × Nat)} (h : ∀ p ∈ I, (Lit.int .i64 p.1).wf = true) {p : Nat} (hp : p < I.length) : (Lit.int .i64 (I.getD p (0, 0)).1).wf = true := by
  refine h _ ?_
  rw [List.getD_eq_getElem?_getD, List.getElem?_eq_getElem hp]; exact List.getElem_mem _
end Go.Proofs.Ytnlhhbnoccobmaa.Web
