/- What impl_LoopsOfWeb answers, and that the Go text comes to it: for every world in which the arguments read as told. -/
import Derived.Test.YtnlhhbnoccobmaaFgA
import Derived.Test.YtnlhhbnoccobmaaFgU
import Derived.Test.YtnlhhbnoccobmaaFx140
import Derived.Test.YtnlhhbnoccobmaaPureWebMap
import Derived.Test.YtnlhhbnoccobmaaPureWebC
import Derived.Test.YtnlhhbnoccobmaaPureMem
import Derived.Test.YtnlhhbnoccobmaaPureWebRoots
import Derived.Test.YtnlhhbnoccobmaaPureWebSize
import Derived.Maps.OwnSet
import Derived.WalkSpells
import Derived.BigQuiet
namespace Go.Proofs.Ytnlhhbnoccobmaa.F
open Go.RowKit Go.Proofs.YtnlhhbnoccobmaaW.PrintWords Go.Proofs.YtnlhhbnoccobmaaW.PrintLast Go.Proofs.YtnlhhbnoccobmaaW.PrintMore
attribute [local go_sem] max2_int min2_int max_two min_two max_three min_three max_four min_four   -- for this text's walks alone
set_option linter.unusedVariables false
set_option linter.unusedSimpArgs false

/-! ### impl_LoopsOfWeb: function 61 (by hand) -/
open Go.Proofs.Ytnlhhbnoccobmaa.Mem Go.Proofs.Ytnlhhbnoccobmaa.Web Go.Proofs.Ytnlhhbnoccobmaa.Pure Go.Maps
theorem map_of_groups {w : World} {P : Program} {k base e b n : Nat} {q : IntKind} {D : DataW Unit} (h : w.ownsGroups P k base e q b n D) : w.ownsMap P k (rowElem (H := Unit) w base e q) b n D := by
  obtain ⟨es, clock, hb, F, hs, rfl, _⟩ := h
  exact ⟨es, clock, hb, F, hs, rfl⟩
set_option maxHeartbeats 2000000 in
set_option maxRecDepth 100000 in
theorem loops_walk (legs : List Int) (forks : List (List Int)) (hw : isWebC legs forks = true) (hwf : ∀ p ∈ inc legs forks, (Lit.int .i64 p.1).wf = true) (Bw : Nat) (Al : Option Addr) (cl : Nat) (Af : Option Addr) (cf : Nat) (w : World) (hb : w.heap[Bw]? = some (.cells #[.slice Al legs.length cl, .slice Af forks.length cf] 28 (0, 0))) (hl : Kd.C (Kd.int .i64) w Al legs.length legs) (hf : Kd.C (Kd.slice 2 (Kd.int .i64)) w Af forks.length forks) :
    Calls Try.prog 141 #[.pointer (some ⟨Bw, 0, none⟩)] w fun e w' => e = .returned (.int .i64 ((((legs.length + 3 * forks.length) / 2 : Nat) : Int) - ((legs.length + forks.length : Nat) : Int) + ((rootsC legs forks : Nat) : Int))) ∧ Below w.heap.size w w' := by
  obtain ⟨h8, h3, htw, _⟩ := web_of hw
  have hsz := edges_half h3 htw
  have hrl := rootsC_le legs forks
  have HBK := Aside0.mk hb
  obtain ⟨N, hN⟩ : ∃ N, N = legs.length + forks.length := ⟨_, rfl⟩
  obtain ⟨E, hE⟩ : ∃ E, E = (legs.length + 3 * forks.length) / 2 := ⟨_, rfl⟩
  obtain ⟨r, hr⟩ : ∃ r, r = rootsC legs forks := ⟨_, rfl⟩
  have HN := Aside0.mk hN
  have HR := Aside0.mk hr
  have HSZ := Aside0.mk (hsz.trans hE.symm)
  have HE8 := Aside0.mk (show E ≤ 100 from by omega)
  have HN8 := Aside0.mk (show N ≤ 8 from by omega)
  have HR8 := Aside0.mk (show r ≤ 8 from by omega)
  have H8 := Aside0.mk h8
  have H3 := Aside0.mk h3
  have HW := Aside0.mk hw
  have HWF := Aside0.mk hwf
  have HL := Aside0.mk hl
  have HF := Aside0.mk hf
  rw [← hN, ← hE, ← hr]
  clear hw hwf hb hl hf h8 h3 htw hsz hrl hN hE hr
  go_enter Try.func141, Try.ntmps141
  go_wp2_with (first
    | (go_at_call 96; refine (stands_walk legs forks Bw Al cl Af cf H8.out H3.out HWF.out _ HBK.out HL.out HF.out).mono ?_; rintro e w1 ⟨rfl, hgr1, hb1⟩; have HGR := Aside0.mk hgr1; have HB1 := Aside0.mk hb1; have HBK1 := Aside0.mk (blk_below HBK.out hb1); clear hgr1 hb1)
    | (at_len; refine wpList_len_own _ rfl _ _ rfl _ _ Try.underlying81 _ _ _ _ rfl (map_of_groups HGR.out) ?_; rw [HSZ.out])
    | (go_at_call 93; refine (nodes_walk legs.length forks.length Bw Al cl Af cf (by have := H8.out; omega) _ HBK1.out).mono ?_; rintro e w2 ⟨rfl, ⟨nd, rfl⟩⟩; rw [← HN.out]; have HBD := Aside0.mk (pw_below_drewN HB1.out nd))
    | (go_at_call 140; refine (parts_walk legs forks HW.out HWF.out Bw Al cl Af cf _ (blk_drewN HBK1.out _) (Kd.C_drewN (Kd.C_below HL.out HB1.out) _) (Kd.C_drewN (Kd.C_below HF.out HB1.out) _)).mono ?_; rintro e w3 ⟨rfl, hb3⟩; rw [← HR.out]; have HB3 := Aside0.mk (below_step HBD.out hb3); clear hb3))
  go_ret
  refine ⟨?_, HB3.out⟩
  have := HE8.out
  have := HN8.out
  have := HR8.out
  have e : wrap64 (wrap64 ((E : Int) - (N : Int)) + (r : Int)) = (E : Int) - (N : Int) + (r : Int) := by unfold wrap64; omega
  rw [← e]
  first | rfl | simp

set_option maxHeartbeats 4000000 in
set_option maxRecDepth 100000 in
theorem ofWeb_LoopsOfWeb (legs : List Int) (forks : List (List Int)) (Al : Option Addr) (cl : Nat) (Af : Option Addr) (cf : Nat) (h1 : legs.length ≤ 17592186044416) (h2 : forks.length ≤ 17592186044416) (hwf : wfW legs forks = true) (hcl : legs.length ≤ cl) (hcf : forks.length ≤ cf) (w : World)
    (hl : Kd.C (Kd.int .i64) w Al legs.length legs) (hf : Kd.C (Kd.slice 2 (Kd.int .i64)) w Af forks.length forks) :
    Calls Try.prog 107 #[.agg #[.slice Al legs.length cl, .slice Af forks.length cf], .func (.func 141) #[] #[]] w fun e w' => e = .returned (.tuple #[.int .i64 (if isWebC legs forks = true then ((((legs.length + 3 * forks.length) / 2 : Nat) : Int) - ((legs.length + forks.length : Nat) : Int) + ((rootsC legs forks : Nat) : Int)) else 0), .int .i64 (if isWebC legs forks = true then 0 else 1)]) ∧ Below w.heap.size w w' := by
  have HBK := Aside0.mk (show (w.alloc (.cells #[.slice Al legs.length cl, .slice Af forks.length cf] 28)).heap[w.heap.size]? = some (.cells #[.slice Al legs.length cl, .slice Af forks.length cf] 28 (0, 0)) from new_at rfl)
  have HB1 := Aside0.mk (show Below w.heap.size w (w.alloc (.cells #[.slice Al legs.length cl, .slice Af forks.length cf] 28)) from below_alloc (Below.refl _ _) _)
  have HBA := Aside0.mk (show Below w.heap.size w (w.alloc (.cells #[.slice Al legs.length cl, .slice Af forks.length cf] 28)) from below_alloc (Below.refl _ _) _)
  have c0 : (w.alloc (.cells #[.slice Al legs.length cl, .slice Af forks.length cf] 28)).cell? ⟨w.heap.size, 0, none⟩ = some (.slice Al legs.length cl) := (blk_cell HBK.out 0).trans rfl
  have c1 : (w.alloc (.cells #[.slice Al legs.length cl, .slice Af forks.length cf] 28)).cell? ⟨w.heap.size, 1, none⟩ = some (.slice Af forks.length cf) := (blk_cell HBK.out 1).trans rfl
  have HL := Aside0.mk hl
  have HF := Aside0.mk hf
  have HCL := Aside0.mk hcl
  have HCF := Aside0.mk hcf
  have HWF := Aside0.mk hwf
  have HFF := Aside0.mk (show impl_IsWeb.f legs forks = some (isWebC legs forks) from by unfold impl_IsWeb.f; rw [if_pos ⟨h1, h2, hwf⟩])
  clear hl hf hcl hcf hwf h1 h2
  cases hw : isWebC legs forks with
  | false =>
    rw [if_neg (by simp), if_neg (by simp)]
    have HFB : Aside0 (impl_IsWeb.f legs forks = some false) := ⟨by rw [← hw]; exact HFF.out⟩
    clear hw
    go_enter Try.func107, Try.ntmps107
    go_wp2_with (first
      | (go_at_call 21; refine (impl_IsWeb.calls Al cl legs Af cf forks false _ (Kd.C_below HL.out HB1.out) HCL.out (Kd.C_below HF.out HB1.out) HCF.out HFB.out).mono ?_; rintro e w2 ⟨rfl, hb2⟩; have HB2 := Aside0.mk (below_step HBA.out hb2); clear hb2))
    go_ret2
    exact ⟨rfl, HB2.out⟩
  | true =>
    rw [if_pos rfl, if_pos rfl]
    have HFB : Aside0 (impl_IsWeb.f legs forks = some true) := ⟨by rw [← hw]; exact HFF.out⟩
    have HW := Aside0.mk hw
    clear hw
    go_enter Try.func107, Try.ntmps107
    go_wp2_with (first
      | (go_at_call 21; refine (impl_IsWeb.calls Al cl legs Af cf forks true _ (Kd.C_below HL.out HB1.out) HCL.out (Kd.C_below HF.out HB1.out) HCF.out HFB.out).mono ?_; rintro e w2 ⟨rfl, hb2⟩; have HBK2 := Aside0.mk (blk_below HBK.out hb2); have HB2 := Aside0.mk (below_step HBA.out hb2); clear hb2)
      | (go_at_call 141; refine (loops_walk legs forks HW.out (fun p hp => List.all_eq_true.1 HWF.out p hp) w.heap.size Al cl Af cf _ HBK2.out (Kd.C_below HL.out HB2.out) (Kd.C_below HF.out HB2.out)).mono ?_; rintro e w3 ⟨rfl, hb3⟩; have HB3 := Aside0.mk (below_step HB2.out hb3); clear hb3))
    go_ret2
    exact ⟨rfl, HB3.out⟩
def impl_LoopsOfWeb.f (l0_0 : List Int) (l0_1 : List (List Int)) : Option (Int × Int) := if l0_0.length ≤ 17592186044416 ∧ l0_1.length ≤ 17592186044416 ∧ wfW l0_0 l0_1 = true then some (if isWebC l0_0 l0_1 = true then ((((l0_0.length + 3 * l0_1.length) / 2 : Nat) : Int) - ((l0_0.length + l0_1.length : Nat) : Int) + ((rootsC l0_0 l0_1 : Nat) : Int)) else 0, if isWebC l0_0 l0_1 = true then 0 else 1) else none
set_option maxHeartbeats 4000000 in
set_option maxRecDepth 100000 in
theorem impl_LoopsOfWeb.calls (A0_0 : Option Addr) (c0_0 : Nat) (l0_0 : List Int) (A0_1 : Option Addr) (c0_1 : Nat) (l0_1 : List (List Int)) (r1 r2 : Int) (w : World) (hr0_0 : Kd.C (Kd.int .i64) w A0_0 l0_0.length l0_0) (hc0_0 : l0_0.length ≤ c0_0) (hr0_1 : Kd.C (Kd.slice 2 (Kd.int .i64)) w A0_1 l0_1.length l0_1) (hc0_1 : l0_1.length ≤ c0_1) (h : impl_LoopsOfWeb.f l0_0 l0_1 = some (r1, r2)) :
    Calls Try.prog 61 #[.agg #[.slice A0_0 l0_0.length c0_0, .slice A0_1 l0_1.length c0_1]] w fun e w' => e = .returned (.tuple #[.int .i64 r1, .int .i64 r2]) ∧ Below w.heap.size w w' := by
  unfold impl_LoopsOfWeb.f at h
  by_cases hk : l0_0.length ≤ 17592186044416 ∧ l0_1.length ≤ 17592186044416 ∧ wfW l0_0 l0_1 = true
  · rw [if_pos hk] at h
    simp only [Option.some.injEq, Prod.mk.injEq] at h
    obtain ⟨e1, e2⟩ := h
    have HBK := Aside0.mk (show (w.alloc (.cells #[.slice A0_0 l0_0.length c0_0, .slice A0_1 l0_1.length c0_1] 28)).heap[w.heap.size]? = some (.cells #[.slice A0_0 l0_0.length c0_0, .slice A0_1 l0_1.length c0_1] 28 (0, 0)) from new_at rfl)
    have HBA := Aside0.mk (show Below w.heap.size w (w.alloc (.cells #[.slice A0_0 l0_0.length c0_0, .slice A0_1 l0_1.length c0_1] 28)) from below_alloc (Below.refl _ _) _)
    have c0 : (w.alloc (.cells #[.slice A0_0 l0_0.length c0_0, .slice A0_1 l0_1.length c0_1] 28)).cell? ⟨w.heap.size, 0, none⟩ = some (.slice A0_0 l0_0.length c0_0) := (blk_cell HBK.out 0).trans rfl
    have c1 : (w.alloc (.cells #[.slice A0_0 l0_0.length c0_0, .slice A0_1 l0_1.length c0_1] 28)).cell? ⟨w.heap.size, 1, none⟩ = some (.slice A0_1 l0_1.length c0_1) := (blk_cell HBK.out 1).trans rfl
    have HR0 := Aside0.mk hr0_0
    have HR1 := Aside0.mk hr0_1
    have HC0 := Aside0.mk hc0_0
    have HC1 := Aside0.mk hc0_1
    have HK := Aside0.mk hk
    have HE1 := Aside0.mk e1
    have HE2 := Aside0.mk e2
    clear hr0_0 hr0_1 hc0_0 hc0_1 hk e1 e2
    go_enter Try.func61, Try.ntmps61
    go_wp2_with (first
      | (go_at_call 107; refine (ofWeb_LoopsOfWeb l0_0 l0_1 A0_0 c0_0 A0_1 c0_1 HK.out.1 HK.out.2.1 HK.out.2.2 HC0.out HC1.out _ (Kd.C_below HR0.out HBA.out) (Kd.C_below HR1.out HBA.out)).mono ?_; rw [HE1.out, HE2.out]; rintro e w2 ⟨rfl, hb2⟩; have HB2 := Aside0.mk (below_step HBA.out hb2); clear hb2))
    go_ret2
    exact ⟨rfl, HB2.out⟩
  · rw [if_neg hk] at h; exact absurd h (by simp)

end Go.Proofs.Ytnlhhbnoccobmaa.F
