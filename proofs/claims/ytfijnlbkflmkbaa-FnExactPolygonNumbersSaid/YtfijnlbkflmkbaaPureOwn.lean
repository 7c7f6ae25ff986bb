/- Words on rows of numbers that are the call's own and lie in a row that is only read: they may be handed back as one's own. -/
import Derived.Test.YtfijnlbkflmkbaaWNEv
import Derived.Test.YtfijnlbkflmkbaaWTab
import Derived.Test.YtfijnlbkflmkbaaPureMem
namespace Go.Proofs.Ytfijnlbkflmkbaa.Mem
open Go.RowKit Go.Proofs.YtfijnlbkflmkbaaW.PrintWords Go.Proofs.YtfijnlbkflmkbaaW.PrintLast

/-- Rows of numbers of one's own (from block b on). -/
def ownk (e b : Nat) : Kd (List Int) where
  sz := 1
  E := e :: (Kd.int .i64).E
  K := fun w xs cs => ∃ v, cs = [v] ∧ w.ownsRow b e 1 v xs.length (nums .i64 xs)
  M := fun _ _ _ _ _ => False
  K_len := by
    rintro w x cs ⟨v, rfl, _⟩
    rfl
  K_one := by
    rintro w x cs ⟨v, rfl, h⟩ u hu
    rw [List.mem_singleton.1 hu]
    obtain ⟨A, c, rfl⟩ := own_slice h
    rfl
  K_below := by
    rintro w w1 x cs hb ⟨v, rfl, h⟩
    exact ⟨v, rfl, pw_own_below h hb⟩
  K_of_M := fun h => h.elim
  M_mono := fun _ h => h.elim
  M_bound := fun h => h.elim
  M_move := fun _ h => h.elim
  M_lower := fun _ h => h.elim
theorem nums_of_reps {w : World} {base : Nat} {ok : Nat → Prop} {xs : List Int} {inner : List Value} (h : Reps ((Kd.int .i64).M w base ok) 1 xs inner) : inner = nums .i64 xs := by
  obtain ⟨hl, hj⟩ := h
  rw [Nat.mul_one] at hl
  apply List.ext_getElem
  · simp [nums, hl]
  · intro j h1 h2
    have hjl : j < xs.length := by omega
    have h3 : (inner.drop (j * 1)).take 1 = [.int .i64 xs[j]] := hj j xs[j] (List.getElem?_eq_getElem hjl)
    rw [Nat.mul_one, List.drop_eq_getElem_cons h1] at h3
    have h4 := (List.cons.inj h3).1
    rw [h4]; simp [nums]
theorem own_of_R {w : World} {e base : Nat} {ok : Nat → Prop} {v : Value} {xs : List Int} (h : Kd.R (Kd.int .i64) e w base ok v xs) : w.ownsRow base e 1 v xs.length (nums .i64 xs) := by
  obtain ⟨_, inner, ho, hr⟩ := h
  have e1 : inner = nums .i64 xs := nums_of_reps hr
  rw [e1] at ho; exact ho
theorem R_keep {α : Type} {d : Kd α} {e base : Nat} {ok : Nat → Prop} {w : World} {v : Value} {xs : List α} (h : Kd.R d e w base ok v xs) : Kd.R d e w base ok v xs := h
theorem R_back {e base : Nat} {w : World} {v : Value} {xs : List Int} (h : w.ownsRow base e 1 v xs.length (nums .i64 xs)) : Kd.R (Kd.int .i64) e w base (fun _ => True) v xs := Kd.R_mono (R_of_own h) (fun _ _ => trivial)
section
variable {e b n c : Nat} {ok : Nat → Prop} {W : World} {A : Option Addr} {xs : List Int} {cs : List Value}
theorem FK_own_mk (_hl : n ≤ c) (h : Kd.R (Kd.int .i64) e W b ok (.slice A n c) xs) : Kd.FK (ownk e b) W ok xs [.slice A n c] := fun _ hW => ⟨_, rfl, own_of_R (Kd.R_step h hW)⟩
theorem FK_own_open (h : Kd.FK (ownk e b) W ok xs cs) : ∃ A c, cs = [.slice A xs.length c] ∧ xs.length ≤ c ∧ Kd.F (Kd.int .i64) W ok A xs.length xs := by
  obtain ⟨v, rfl, ho⟩ := Kd.FK_now h
  obtain ⟨A, c, rfl⟩ := own_slice ho
  have hr := Kd.R_reads' (R_of_own ho)
  refine ⟨A, c, rfl, hr.2.1, fun W' hW => ?_⟩
  obtain ⟨v', ev, ho'⟩ := h W' hW
  have e1 := (List.cons.inj ev).1
  rw [← e1] at ho'
  exact (Kd.R_reads' (R_of_own ho')).2.2
theorem own_at {A' : Option Addr} {n' c' : Nat} (h : Kd.FK (ownk e b) W ok xs [.slice A n c]) (ha : A = A') (hn : n = n') (hc : c = c') : W.ownsRow b e 1 (.slice A' n' c') xs.length (nums .i64 xs) := by
  subst ha; subst hn; subst hc
  obtain ⟨v, ev, ho⟩ := Kd.FK_now h
  have e1 := (List.cons.inj ev).1
  rw [← e1] at ho; exact ho
theorem C_own {xs : List (List Int)} (h : (ownk e b).C W A n xs) : Kd.C (Kd.slice e (Kd.int .i64)) W A n xs := by
  refine ReadsRow.imp_ h (Below.refl _ _) (fun p c hk => ?_)
  obtain ⟨v, rfl, ho⟩ := hk
  obtain ⟨A, c, rfl⟩ := own_slice ho
  have hr := Kd.R_reads' (R_of_own ho)
  exact ⟨A, c, rfl, hr.2.1, hr.2.2⟩
end
end Go.Proofs.Ytfijnlbkflmkbaa.Mem
