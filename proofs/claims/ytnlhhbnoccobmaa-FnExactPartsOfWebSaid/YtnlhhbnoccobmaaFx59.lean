/- What impl_PartsOfWeb answers, and that the Go text comes to it: for every world in which the arguments read as told. -/
import Derived.Test.YtnlhhbnoccobmaaFgA
import Derived.Test.YtnlhhbnoccobmaaFgU
import Derived.Test.YtnlhhbnoccobmaaFx140
import Derived.Test.YtnlhhbnoccobmaaPureWebMap
import Derived.Test.YtnlhhbnoccobmaaPureWebC
import Derived.Test.YtnlhhbnoccobmaaPureMem
import Derived.Test.YtnlhhbnoccobmaaPureWebRoots
import Derived.WalkSpells
import Derived.BigQuiet
namespace Go.Proofs.Ytnlhhbnoccobmaa.F
open Go.RowKit Go.Proofs.YtnlhhbnoccobmaaW.PrintWords Go.Proofs.YtnlhhbnoccobmaaW.PrintLast Go.Proofs.YtnlhhbnoccobmaaW.PrintMore
attribute [local go_sem] max2_int min2_int max_two min_two max_three min_three max_four min_four   -- for this text's walks alone
set_option linter.unusedVariables false
set_option linter.unusedSimpArgs false

/-! ### impl_PartsOfWeb: function 59 (by hand) -/
open Go.Proofs.Ytnlhhbnoccobmaa.Mem Go.Proofs.Ytnlhhbnoccobmaa.Web Go.Proofs.Ytnlhhbnoccobmaa.Pure Go.Maps

set_option maxHeartbeats 4000000 in
set_option maxRecDepth 100000 in
theorem ofWeb_PartsOfWeb (legs : List Int) (forks : List (List Int)) (Al : Option Addr) (cl : Nat) (Af : Option Addr) (cf : Nat) (h1 : legs.length ≤ 17592186044416) (h2 : forks.length ≤ 17592186044416) (hwf : wfW legs forks = true) (hcl : legs.length ≤ cl) (hcf : forks.length ≤ cf) (w : World)
    (hl : Kd.C (Kd.int .i64) w Al legs.length legs) (hf : Kd.C (Kd.slice 2 (Kd.int .i64)) w Af forks.length forks) :
    Calls Try.prog 107 #[.agg #[.slice Al legs.length cl, .slice Af forks.length cf], .func (.func 140) #[] #[]] w fun e w' => e = .returned (.tuple #[.int .i64 (if isWebC legs forks = true then ((rootsC legs forks : Nat) : Int) else 0), .int .i64 (if isWebC legs forks = true then 0 else 1)]) ∧ Below w.heap.size w w' := by
  have HBK := Aside0.mk (show (w.alloc (.cells #[.slice Al legs.length cl, .slice Af forks.length cf] 28)).heap[w.heap.size]? = some (.cells #[.slice Al legs.length cl, .slice Af forks.length cf] 28 (0, 0)) from new_at rfl)
  have HB1 := Aside0.mk (show Below w.heap.size w (w.alloc (.cells #[.slice Al legs.length cl, .slice Af forks.length cf] 28)) from below_alloc (Below.refl _ _) _)
  have HBA := Aside0.mk (show Below w.heap.size w (w.alloc (.cells #[.slice Al legs.length cl, .slice Af forks.length cf] 28)) from below_alloc (Below.refl _ _) _)
  have c0 : (w.alloc (.cells #[.slice Al legs.length cl, .slice Af forks.length cf] 28)).cell? ⟨w.heap.size, 0, none⟩ = some (.slice Al legs.length cl) := (blk_cell HBK.out 0).trans rfl
  have c1 : (w.alloc (.cells #[.slice Al legs.length cl, .slice Af forks.length cf] 28)).cell? ⟨w.heap.size, 1, none⟩ = some (.slice Af forks.length cf) := (blk_cell HBK.out 1).trans rfl
  have HL := Aside0.mk hl
  have HF := Aside0.mk hf
  have HCL := Aside0.mk hcl
  have HCF := Aside0.mk hcf
  have HWF := Aside0.mk hwf
  have HFF := Aside0.mk (show impl_IsWeb.f legs forks = some (isWebC legs forks) from by unfold impl_IsWeb.f; rw [if_pos ⟨h1, h2, hwf⟩])
  clear hl hf hcl hcf hwf h1 h2
  cases hw : isWebC legs forks with
  | false =>
    rw [if_neg (by simp), if_neg (by simp)]
    have HFB : Aside0 (impl_IsWeb.f legs forks = some false) := ⟨by rw [← hw]; exact HFF.out⟩
    clear hw
    go_enter Try.func107, Try.ntmps107
    go_wp2_with (first
      | (go_at_call 21; refine (impl_IsWeb.calls Al cl legs Af cf forks false _ (Kd.C_below HL.out HB1.out) HCL.out (Kd.C_below HF.out HB1.out) HCF.out HFB.out).mono ?_; rintro e w2 ⟨rfl, hb2⟩; have HB2 := Aside0.mk (below_step HBA.out hb2); clear hb2))
    go_ret2
    exact ⟨rfl, HB2.out⟩
  | true =>
    rw [if_pos rfl, if_pos rfl]
    have HFB : Aside0 (impl_IsWeb.f legs forks = some true) := ⟨by rw [← hw]; exact HFF.out⟩
    have HW := Aside0.mk hw
    clear hw
    go_enter Try.func107, Try.ntmps107
    go_wp2_with (first
      | (go_at_call 21; refine (impl_IsWeb.calls Al cl legs Af cf forks true _ (Kd.C_below HL.out HB1.out) HCL.out (Kd.C_below HF.out HB1.out) HCF.out HFB.out).mono ?_; rintro e w2 ⟨rfl, hb2⟩; have HBK2 := Aside0.mk (blk_below HBK.out hb2); have HB2 := Aside0.mk (below_step HBA.out hb2); clear hb2)
      | (go_at_call 140; refine (parts_walk legs forks HW.out (fun p hp => List.all_eq_true.1 HWF.out p hp) w.heap.size Al cl Af cf _ HBK2.out (Kd.C_below HL.out HB2.out) (Kd.C_below HF.out HB2.out)).mono ?_; rintro e w3 ⟨rfl, hb3⟩; have HB3 := Aside0.mk (below_step HB2.out hb3); clear hb3))
    go_ret2
    exact ⟨rfl, HB3.out⟩
def impl_PartsOfWeb.f (l0_0 : List Int) (l0_1 : List (List Int)) : Option (Int × Int) := if l0_0.length ≤ 17592186044416 ∧ l0_1.length ≤ 17592186044416 ∧ wfW l0_0 l0_1 = true then some (if isWebC l0_0 l0_1 = true then ((rootsC l0_0 l0_1 : Nat) : Int) else 0, if isWebC l0_0 l0_1 = true then 0 else 1) else none
set_option maxHeartbeats 4000000 in
set_option maxRecDepth 100000 in
theorem impl_PartsOfWeb.calls (A0_0 : Option Addr) (c0_0 : Nat) (l0_0 : List Int) (A0_1 : Option Addr) (c0_1 : Nat) (l0_1 : List (List Int)) (r1 r2 : Int) (w : World) (hr0_0 : Kd.C (Kd.int .i64) w A0_0 l0_0.length l0_0) (hc0_0 : l0_0.length ≤ c0_0) (hr0_1 : Kd.C (Kd.slice 2 (Kd.int .i64)) w A0_1 l0_1.length l0_1) (hc0_1 : l0_1.length ≤ c0_1) (h : impl_PartsOfWeb.f l0_0 l0_1 = some (r1, r2)) :
    Calls Try.prog 59 #[.agg #[.slice A0_0 l0_0.length c0_0, .slice A0_1 l0_1.length c0_1]] w fun e w' => e = .returned (.tuple #[.int .i64 r1, .int .i64 r2]) ∧ Below w.heap.size w w' := by
  unfold impl_PartsOfWeb.f at h
  by_cases hk : l0_0.length ≤ 17592186044416 ∧ l0_1.length ≤ 17592186044416 ∧ wfW l0_0 l0_1 = true
  · rw [if_pos hk] at h
    simp only [Option.some.injEq, Prod.mk.injEq] at h
    obtain ⟨e1, e2⟩ := h
    have HBK := Aside0.mk (show (w.alloc (.cells #[.slice A0_0 l0_0.length c0_0, .slice A0_1 l0_1.length c0_1] 28)).heap[w.heap.size]? = some (.cells #[.slice A0_0 l0_0.length c0_0, .slice A0_1 l0_1.length c0_1] 28 (0, 0)) from new_at rfl)
    have HBA := Aside0.mk (show Below w.heap.size w (w.alloc (.cells #[.slice A0_0 l0_0.length c0_0, .slice A0_1 l0_1.length c0_1] 28)) from below_alloc (Below.refl _ _) _)
    have c0 : (w.alloc (.cells #[.slice A0_0 l0_0.length c0_0, .slice A0_1 l0_1.length c0_1] 28)).cell? ⟨w.heap.size, 0, none⟩ = some (.slice A0_0 l0_0.length c0_0) := (blk_cell HBK.out 0).trans rfl
    have c1 : (w.alloc (.cells #[.slice A0_0 l0_0.length c0_0, .slice A0_1 l0_1.length c0_1] 28)).cell? ⟨w.heap.size, 1, none⟩ = some (.slice A0_1 l0_1.length c0_1) := (blk_cell HBK.out 1).trans rfl
    have HR0 := Aside0.mk hr0_0
    have HR1 := Aside0.mk hr0_1
    have HC0 := Aside0.mk hc0_0
    have HC1 := Aside0.mk hc0_1
    have HK := Aside0.mk hk
    have HE1 := Aside0.mk e1
    have HE2 := Aside0.mk e2
    clear hr0_0 hr0_1 hc0_0 hc0_1 hk e1 e2
    go_enter Try.func59, Try.ntmps59
    go_wp2_with (first
      | (go_at_call 107; refine (ofWeb_PartsOfWeb l0_0 l0_1 A0_0 c0_0 A0_1 c0_1 HK.out.1 HK.out.2.1 HK.out.2.2 HC0.out HC1.out _ (Kd.C_below HR0.out HBA.out) (Kd.C_below HR1.out HBA.out)).mono ?_; rw [HE1.out, HE2.out]; rintro e w2 ⟨rfl, hb2⟩; have HB2 := Aside0.mk (below_step HBA.out hb2); clear hb2))
    go_ret2
    exact ⟨rfl, HB2.out⟩
  · rw [if_neg hk] at h; exact absurd h (by simp)

end Go.Proofs.Ytnlhhbnoccobmaa.F
