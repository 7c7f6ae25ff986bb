/- Plain laws: the reference's count of a web's parts. -/
import Derived.Test.YtnlhhbnoccobmaaFgT
import Derived.Test.YtnlhhbnoccobmaaFgU
import Derived.Test.YtnlhhbnoccobmaaFx139
import Derived.Test.YtnlhhbnoccobmaaPureWebBoth
import Derived.Test.YtnlhhbnoccobmaaPureWebRoots
namespace Go.Proofs.Ytnlhhbnoccobmaa.Pure
open Go.RowKit Go.Proofs.Ytnlhhbnoccobmaa.F Go.Proofs.Ytnlhhbnoccobmaa.Mem Go.Proofs.Ytnlhhbnoccobmaa.Web Go.Proofs.YtnlhhbnoccobmaaW.PrintWords Go.Proofs.YtnlhhbnoccobmaaW.PrintLast
set_option linter.unusedVariables false
set_option linter.unusedSimpArgs false

theorem wcount_l0 (out : List Nat) (hn : out.length ≤ 8) : ∀ d i, i + d = out.length → Ev (fun k => spec_l06Count.l0 k (ints out) ((cnt (fun v => at_ out v == v) i : Nat) : Int) (i : Int)) ((cnt (fun v => at_ out v == v) out.length : Nat) : Int) := by
  intro d
  induction d with
  | zero =>
    intro i hi
    obtain rfl : i = out.length := by omega
    refine Ev_succ ?_
    simp only [spec_l06Count.l0]
    exact Ev.congr (fun k => if_neg (by rw [ints_len]; omega)) (Ev.now _)
  | succ d ih =>
    intro i hi
    have := ih (i + 1) (by omega)
    have hc := cnt_le (fun v => at_ out v == v) i
    refine Ev_succ ?_
    simp only [spec_l06Count.l0]
    refine Ev.congr (fun k => if_pos (by rw [ints_len]; omega)) (Ev.congr (fun k => if_pos (by omega)) ?_)
    rw [rd_ints (by omega), wS (n := i) (by omega)]
    by_cases e : at_ out i = i
    · refine Ev.congr (fun k => if_pos (by omega)) ?_
      rw [wS (n := cnt (fun v => at_ out v == v) i) (by omega)]
      have h : cnt (fun v => at_ out v == v) (i + 1) = cnt (fun v => at_ out v == v) i + 1 := by simp [cnt, e]
      rw [h] at this
      exact this
    · refine Ev.congr (fun k => if_neg (by omega)) ?_
      have h : cnt (fun v => at_ out v == v) (i + 1) = cnt (fun v => at_ out v == v) i := by simp [cnt, e]
      rw [h] at this
      exact this
theorem wcount_ev {l : List Int} {L : List (List Int)} (h : isWebC l L = true) : Ev (fun k => spec_l06Count.f k l L) ((rootsC l L : Nat) : Int) := by
  obtain ⟨h8, h3, htw, _⟩ := web_of h
  unfold spec_l06Count.f
  refine Ev.bind (wparts_ev rfl h8 h3) ?_
  have := wcount_l0 ((List.range (l.length + L.length)).map (lbl (inc l L))) (by simp; omega) (l.length + L.length) 0 (by simp)
  rw [List.length_map, List.length_range] at this
  rw [rootsC_eq (twice_two htw), cnt_congr (q := fun v => at_ ((List.range (l.length + L.length)).map (lbl (inc l L))) v == v) _ (fun v hv => by simp [at_, hv])]
  exact this
end Go.Proofs.Ytnlhhbnoccobmaa.Pure
