/- Plain laws: numbers of edges that fit; the reference's test as the function that can be reckoned. -/
import Derived.Test.YtnlhhbnoccobmaaFgT
import Derived.Test.YtnlhhbnoccobmaaFgU
import Derived.Test.YtnlhhbnoccobmaaPureWebLaw
import Derived.Test.YtnlhhbnoccobmaaPureWebSpec
import Derived.Test.YtnlhhbnoccobmaaPureWebC
namespace Go.Proofs.Ytnlhhbnoccobmaa.Pure
open Go.RowKit Go.Proofs.Ytnlhhbnoccobmaa.F Go.Proofs.Ytnlhhbnoccobmaa.Web Go.Proofs.YtnlhhbnoccobmaaW.PrintWords Go.Proofs.YtnlhhbnoccobmaaW.PrintLast

theorem wf_inc {l : List Int} {L : List (List Int)} (w0 : ∀ x ∈ l, (Lit.int .i64 x).wf = true) (w1 : ∀ m ∈ L, ∀ x ∈ m, (Lit.int .i64 x).wf = true) : wfW l L = true := by
  unfold wfW
  rw [List.all_eq_true]
  intro p hp
  rcases mem_inc.1 (show (p.1, p.2) ∈ inc l L from hp) with h | ⟨_, f, hf, he⟩
  · exact w0 _ (List.mem_of_getElem? h)
  · exact w1 f (List.mem_of_getElem? hf) _ he
theorem specIs_C {l : List Int} {L : List (List Int)} (hl : l.length ≤ 1048576) (hL : Small L) : Ev (fun k => spec_l06Is.f k l L) (isWebC l L) := by
  have := hL.len
  rw [isWebC_eq]
  exact specIs_ev l L (by omega) (by omega)
end Go.Proofs.Ytnlhhbnoccobmaa.Pure
