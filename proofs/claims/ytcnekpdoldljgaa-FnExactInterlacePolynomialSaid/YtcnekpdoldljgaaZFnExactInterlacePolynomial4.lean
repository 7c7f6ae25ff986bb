/- Words, walks and plain laws that the row of the law FnExactInterlacePolynomial uses. -/
import Derived.Test.YtcnekpdoldljgaaZFnExactInterlacePolynomial3
import Derived.Shelf.SlSortCmp.Small
import Derived.Shelf.Small.Bits
import Derived.BigQuiet
import Derived.Deep.RegionWith
import Derived.Deep.RegionLawGrows
import Derived.RangeFuncBox
import Derived.RangeFuncLeaves
import Derived.RangeFuncNested
import Derived.RangeFuncBound
import Derived.RangeFuncCalls
import Derived.Shelf.Abstract
import Derived.Shelf.RegionOpen
import Derived.WalkKit
import Derived.OwnWalkIn
import Derived.TacticsInMore
import Derived.LoopNIn
import Derived.LoopIn
section
namespace Go.Proofs.Ytcnekpdoldljgaa.F
open Go.RowKit Go.Proofs.YtcnekpdoldljgaaW.PrintWords Go.Proofs.YtcnekpdoldljgaaW.PrintLast Go.Proofs.YtcnekpdoldljgaaW.PrintMore
attribute [local go_sem] max2_int min2_int max_two min_two max_three min_three max_four min_four   
set_option linter.unusedVariables false
set_option linter.unusedSimpArgs false
open Go.Proofs.Ytcnekpdoldljgaa.ORows Go.Proofs.Ytcnekpdoldljgaa.Mem Go.Sort
def laysSortRows_ren : Go.Shelf.Ren := ⟨fun | 6 => 191 | 15 => 197 | 14 => 199 | 28 => 210 | 29 => 211 | 20 => 212 | 21 => 213 | 22 => 214 | 23 => 215 | 24 => 216 | 25 => 217 | 26 => 218 | 27 => 219 | 46 => 226 | 47 => 222 | 48 => 223 | 49 => 227 | 50 => 228 | 57 => 230 | n => n, fun | 22 => 39 | 24 => 24 | 25 => 156 | 3 => 3 | 39 => 117 | 0 => 0 | 53 => 183 | 55 => 109 | 4 => 4 | 46 => 176 | 45 => 175 | 50 => 180 | 5 => 5 | 9 => 9 | 66 => 190 | 70 => 194 | 76 => 198 | 77 => 145 | n => n, fun | n => n⟩
theorem laysSortRows : Go.Proofs.SlLaysF.n6 Try.prog laysSortRows_ren := {
  mixed := by kernel_rfl, f6 := ⟨Try.f191.name, by decide, Try.func191.trans (congrArg some (by kernel_rfl))⟩, f14 := ⟨Try.f199.name, by decide, Try.func199.trans (congrArg some (by kernel_rfl))⟩, f15 := Try.func197.trans (congrArg some (by kernel_rfl)), f20 := ⟨Try.f212.name, by decide, Try.func212.trans (congrArg some (by kernel_rfl))⟩, f21 := ⟨Try.f213.name, by decide, Try.func213.trans (congrArg some (by kernel_rfl))⟩, f22 := ⟨Try.f214.name, by decide, Try.func214.trans (congrArg some (by kernel_rfl))⟩, f23 := ⟨Try.f215.name, by decide, Try.func215.trans (congrArg some (by kernel_rfl))⟩, f24 := ⟨Try.f216.name, by decide, Try.func216.trans (congrArg some (by kernel_rfl))⟩, f25 := ⟨Try.f217.name, by decide, Try.func217.trans (congrArg some (by kernel_rfl))⟩, f26 := ⟨Try.f218.name, by decide, Try.func218.trans (congrArg some (by kernel_rfl))⟩, f27 := ⟨Try.f219.name, by decide, Try.func219.trans (congrArg some (by kernel_rfl))⟩, f28 := Try.func210.trans (congrArg some (by kernel_rfl)), f29 := Try.func211.trans (congrArg some (by kernel_rfl)), f46 := ⟨Try.f226.name, by decide, Try.func226.trans (congrArg some (by kernel_rfl))⟩, f47 := Try.func222.trans (congrArg some (by kernel_rfl)), f48 := Try.func223.trans (congrArg some (by kernel_rfl)), f49 := ⟨Try.f227.name, by decide, Try.func227.trans (congrArg some (by kernel_rfl))⟩, f50 := ⟨Try.f228.name, by decide, Try.func228.trans (congrArg some (by kernel_rfl))⟩, f57 := ⟨Try.f230.name, by decide, Try.func230.trans (congrArg some (by kernel_rfl))⟩, t0 := Try.underlying0, a0 := Try.isAgg0, z0 := Try.sizeOf0, v0 := Try.zeroValue0, t3 := Try.underlying3, a3 := Try.isAgg3, z3 := Try.sizeOf3, v3 := Try.zeroValue3, t4 := Try.underlying4, a4 := Try.isAgg4, z4 := Try.sizeOf4, v4 := Try.zeroValue4, t5 := Try.underlying5, a5 := Try.isAgg5, z5 := Try.sizeOf5, v5 := Try.zeroValue5, t9 := Try.underlying9, a9 := Try.isAgg9, z9 := Try.sizeOf9, v9 := Try.zeroValue9, t22 := Try.underlying39, a22 := Try.isAgg39, z22 := Try.sizeOf39, v22 := Try.zeroValue39, a24 := Try.isAgg24, z24 := Try.sizeOf24, t25 := Try.underlying156, a25 := Try.isAgg156, z25 := Try.sizeOf156, v25 := Try.zeroValue156, t39 := Try.underlying117, a39 := Try.isAgg117, z39 := Try.sizeOf117, v39 := Try.zeroValue117, t45 := Try.underlying175, a45 := Try.isAgg175, z45 := Try.sizeOf175, v45 := Try.zeroValue175, t46 := Try.underlying176, a46 := Try.isAgg176, z46 := Try.sizeOf176, v46 := Try.zeroValue176, t50 := Try.underlying180, a50 := Try.isAgg180, z50 := Try.sizeOf180, v50 := Try.zeroValue180, t53 := Try.underlying183, a53 := Try.isAgg183, z53 := Try.sizeOf183, v53 := Try.zeroValue183, t55 := Try.underlying109, a55 := Try.isAgg109, z55 := Try.sizeOf109, v55 := Try.zeroValue109, t66 := Try.underlying190, a66 := Try.isAgg190, z66 := Try.sizeOf190, v66 := Try.zeroValue190, t70 := Try.underlying194, a70 := Try.isAgg194, z70 := Try.sizeOf194, v70 := Try.zeroValue194, t76 := Try.underlying198, a76 := Try.isAgg198, z76 := Try.sizeOf198, v76 := Try.zeroValue198, t77 := Try.underlying145, a77 := Try.isAgg145, z77 := Try.sizeOf145, v77 := Try.zeroValue145 }
def laysLen_ren : Go.Shelf.Ren := ⟨fun | 125 => 197 | 128 => 210 | 129 => 211 | n => n, fun | 46 => 117 | 3 => 3 | 51 => 183 | 53 => 109 | 4 => 4 | 5 => 5 | 9 => 9 | n => n, fun | n => n⟩
theorem laysLen : Go.Proofs.Lays.n125 Try.prog laysLen_ren := {
  mixed := by kernel_rfl, f125 := Try.func197.trans (congrArg some (by kernel_rfl)), f128 := Try.func210.trans (congrArg some (by kernel_rfl)), f129 := Try.func211.trans (congrArg some (by kernel_rfl)), t3 := Try.underlying3, a3 := Try.isAgg3, z3 := Try.sizeOf3, v3 := Try.zeroValue3, t4 := Try.underlying4, a4 := Try.isAgg4, z4 := Try.sizeOf4, v4 := Try.zeroValue4, t5 := Try.underlying5, a5 := Try.isAgg5, z5 := Try.sizeOf5, v5 := Try.zeroValue5, t9 := Try.underlying9, a9 := Try.isAgg9, z9 := Try.sizeOf9, v9 := Try.zeroValue9, t46 := Try.underlying117, a46 := Try.isAgg117, z46 := Try.sizeOf117, v46 := Try.zeroValue117, t51 := Try.underlying183, a51 := Try.isAgg183, z51 := Try.sizeOf183, v51 := Try.zeroValue183, t53 := Try.underlying109, a53 := Try.isAgg109, z53 := Try.sizeOf109, v53 := Try.zeroValue109 }
theorem first_bound (l : List Int) : firstV l = -1 ∨ (0 ≤ firstV l ∧ firstV l < (l.length : Int)) := by
  have key : ∀ (l : List Int) (n : Nat), firstFrom l n = -1 ∨ ((n : Int) ≤ firstFrom l n ∧ firstFrom l n < ((n + l.length : Nat) : Int)) := by
    intro l
    induction l with
    | nil => intro n; exact .inl rfl
    | cons x t ih =>
      intro n
      rw [firstFrom]
      split
      · exact .inr ⟨Int.le_refl _, by simp; omega⟩
      · rcases ih (n + 1) with h | ⟨h1, h2⟩
        · exact .inl h
        · refine .inr ⟨by omega, ?_⟩
          rw [List.length_cons]; omega
  rcases key l 0 with h | ⟨h1, h2⟩
  · exact .inl h
  · exact .inr ⟨h1, by unfold firstV; omega⟩
theorem grownBy_sortE {α : Type} [Inhabited α] {enc : α → Value} {w : World} {g n : Nat} {os : Array Obj} (d : Array α) : w.grownBy (grow (putRow enc (Sort.ahead w n) g 0 d) os) (some g) := by
  refine ⟨rfl, rfl, rfl, by simp, fun k hk hne => ?_⟩
  rw [heap_grow_old _ _ (by simpa using hk)]
  have : g ≠ k := fun e => hne (by rw [e])
  simp [putRow, mapBlock, Sort.ahead, Array.getElem?_modify, this]
set_option maxHeartbeats 4000000 in
set_option maxRecDepth 100000 in
theorem reduced_cmp (l m : List Int) (A B : Option Addr) (c d : Nat) (z : Int) (w : World) (hl : Kd.C (Kd.int .i64) w A l.length l) (hm : Kd.C (Kd.int .i64) w B m.length m) (hc : l.length ≤ c) (hd : m.length ≤ d) (h1 : l.length ≤ 1000) (h2 : m.length ≤ 1000) (hz : z = firstV l - firstV m) :
    Calls Try.prog 192 #[.slice A l.length c, .slice B m.length d] w fun e w' => e = .returned (.int .i64 z) ∧ ∃ q, w' = w.drewN q := by
  have hfl : impl_first.f l = some (firstV l) := if_pos (by omega)
  have hfm : impl_first.f m = some (firstV m) := if_pos (by omega)
  have hb1 : firstV l ≤ 1000 ∧ -1 ≤ firstV l := by
    rcases first_bound l with h | ⟨h3, h4⟩ <;> omega
  have hb2 : firstV m ≤ 1000 ∧ -1 ≤ firstV m := by
    rcases first_bound m with h | ⟨h3, h4⟩ <;> omega
  have hw : wrap64 (firstV l - firstV m) = z := by rw [hz]; unfold wrap64; omega
  obtain ⟨x, hx⟩ : ∃ x, x = firstV l := ⟨_, rfl⟩
  obtain ⟨y, hy⟩ : ∃ y, y = firstV m := ⟨_, rfl⟩
  rw [← hx] at hfl hw
  rw [← hy] at hfm hw
  have HC1 := Aside0.mk (impl_first.calls A c l x w hl hc hfl)
  have HC2 := Aside0.mk (fun nd => impl_first.calls B d m y (w.drewN nd) (Kd.C_drewN hm nd) hd hfm)
  have HW := Aside0.mk hw
  clear hl hm hc hd h1 h2 hz hfl hfm hb1 hb2 hw hx hy
  go_enter Try.func192, Try.ntmps192
  go_wp2_with (first | (go_at_call 190; refine (HC1.out).mono ?_; rintro e w2 ⟨rfl, ⟨nd, rfl⟩⟩) | (go_at_call 190; refine (HC2.out _).mono ?_; rintro e w2 ⟨rfl, ⟨nd2, rfl⟩⟩))
  go_ret
  exact ⟨by rw [HW.out]; rfl, _, rfl⟩
theorem sort_rows (n : Nat) (bs : List (Nat × Nat)) (F : Nat → List Int) (base base' : Nat) (ok : Nat → Prop) (w : World) (hOwn : Go.Proofs.Ytcnekpdoldljgaa.ORows.Own n base F bs w) (hn : n ≤ 1000) (g cap : Nat) (obs : List (Nat × Nat)) (hsub : ∀ p ∈ obs, p ∈ bs)
    (hR : (kE n).R 24 w base' ok (.slice (some ⟨g, 0, none⟩) obs.length cap) obs) (h12 : obs.length ≤ 12) (hne : ∀ p ∈ bs, p.1 ≠ g) :
    Calls Try.prog 191 #[.slice (some ⟨g, 0, none⟩) obs.length cap, .func (.func 192) #[] #[]] w fun e w' => e = .returned (.tuple #[]) ∧ w.grownBy w' (some g) := by
  have hC := (Kd.R_reads' hR).2.2
  obtain ⟨_, inner, ⟨_, hv⟩, _⟩ := hR
  rcases hv with ⟨he, _⟩ | ⟨g', cap', cur, he, _, hg, _⟩
  · cases he
  · injection he with e1 e2 e3
    injection e1 with e1
    injection e1 with e1
    subst e1; subst e3
    let enc : Nat × Nat → Value := fun p => if p ∈ bs then rowE n p else .slice none 0 0
    have hO : OneCell enc := fun p => by
      show (if p ∈ bs then rowE n p else Value.slice none 0 0).oneCell' = true
      split <;> rfl
    let G : Nat × Nat → List Int := fun p => if p ∈ bs then F p.1 else []
    have hH : Holds enc w g 0 obs.toArray := fun j hj => by
      have hj' : j < obs.length := by simpa using hj
      obtain ⟨ad, hA, hc⟩ := cell_of_E hC j hj'
      cases hA
      refine ⟨?_, by simp [World.frozen?, hg]⟩
      have e : (obs.toArray[j]! : Nat × Nat) = obs.getD j (0, 0) := by simp [hj', List.getD_eq_getElem?_getD, List.getElem?_eq_getElem hj']
      have hm : obs.getD j (0, 0) ∈ bs := by
        rw [List.getD_eq_getElem?_getD, List.getElem?_eq_getElem hj']
        exact hsub _ (List.getElem_mem hj')
      rw [e, show enc (obs.getD j (0, 0)) = rowE n (obs.getD j (0, 0)) from if_pos hm]
      unfold Addr.add at hc
      by_cases h0 : j = 0
      · subst h0; rw [if_pos rfl] at hc; exact hc
      · rw [if_neg h0] at hc; exact hc
    have hread : ∀ (W : World), (∀ p ∈ bs, W.heap[p.1]? = w.heap[p.1]?) → ∀ p : Nat × Nat, ∃ A c, enc p = .slice A (G p).length c ∧ (G p).length ≤ c ∧ (G p).length ≤ 1000 ∧ Kd.C (Kd.int .i64) W A (G p).length (G p) := by
      intro W hW p
      by_cases hp : p ∈ bs
      rotate_left
      · refine ⟨none, 0, ?_, ?_, ?_, ?_⟩
        · show (if p ∈ bs then rowE n p else _) = Value.slice _ (if p ∈ bs then F p.1 else []).length _
          rw [if_neg hp, if_neg hp]; rfl
        · show (if p ∈ bs then F p.1 else []).length ≤ _
          rw [if_neg hp]; exact Nat.le_refl _
        · show (if p ∈ bs then F p.1 else []).length ≤ _
          rw [if_neg hp]; exact Nat.zero_le _
        · show Kd.C _ _ _ (if p ∈ bs then F p.1 else []).length (if p ∈ bs then F p.1 else [])
          rw [if_neg hp]; exact Kd.C_nil _ _
      have hr := (hOwn.row p hp).move (hW p hp)
      refine ⟨some ⟨p.1, 0, none⟩, p.2, ?_, ?_, ?_, ?_⟩
      · show (if p ∈ bs then rowE n p else _) = Value.slice _ (if p ∈ bs then F p.1 else []).length _
        rw [if_pos hp, if_pos hp, hr.len]; rfl
      · show (if p ∈ bs then F p.1 else []).length ≤ _
        rw [if_pos hp, hr.len]; exact hr.cap
      · show (if p ∈ bs then F p.1 else []).length ≤ _
        rw [if_pos hp, hr.len]; exact hn
      · show Kd.C _ _ _ (if p ∈ bs then F p.1 else []).length (if p ∈ bs then F p.1 else [])
        rw [if_pos hp]; exact hr.C
    have hcmp : CmpReads Try.prog 192 #[] enc (fun p q => firstV (G p) - firstV (G q)) g 0 obs.toArray.size w := fun m os dk hdk p q => by
      have hgrow : w.grownBy (sortWorld enc w g 0 m dk os) (some g) := grownBy_sortE dk
      have hW : ∀ p ∈ bs, (sortWorld enc w g 0 m dk os).heap[p.1]? = w.heap[p.1]? := fun p hp => hgrow.block p.1 (hOwn.row p hp).lt (fun e => hne p hp (Option.some.inj e))
      obtain ⟨A, c, e1, h1, h2, h3⟩ := hread _ hW p
      obtain ⟨B, d, f1, f2, f3, f4⟩ := hread _ hW q
      rw [e1, f1]
      exact reduced_cmp (G p) (G q) A B c d _ _ h3 f4 h1 f2 h2 f3 rfl
    have hlen : ∀ (k : Nat) (W : World), k ≤ 12 → Calls Try.prog (laysSortRows_ren.f 15) #[.int .u64 k] W fun e w' => (∃ l : Int, e = .returned (.int .i64 l)) ∧ w' = W := fun k W hk =>
      (show Calls Try.prog 197 _ _ _ from Any.bits_Len laysLen (k : Int) W (by omega) (by omega)).mono fun e w' h => ⟨⟨_, h.1⟩, h.2⟩
    have hs := Any.slices_SortFunc_small laysSortRows enc hO (fun p q => firstV (G p) - firstV (G q)) 192 #[] g 0 cap obs.toArray w (enters_of Try.func192 (by kernel_rfl) rfl) hcmp hH (by simpa using h12) hlen
    rw [show obs.toArray.size = obs.length from by simp] at hs
    refine (show Calls Try.prog 191 _ _ _ from hs).mono ?_
    rintro e w' ⟨rfl, k, rfl⟩
    refine ⟨rfl, ?_⟩
    have := grownBy_sortE (w := w) (g := g) (n := k) (os := #[]) (enc := enc) (Sort.insertionSort (ltOf fun p q => firstV (G p) - firstV (G q)) obs.toArray 0 obs.length)
    rw [grow_empty] at this
    exact this
end Go.Proofs.Ytcnekpdoldljgaa.F
end
section
namespace Go.Proofs.Ytcnekpdoldljgaa.F
open Go.RowKit Go.Proofs.YtcnekpdoldljgaaW.PrintWords Go.Proofs.YtcnekpdoldljgaaW.PrintLast Go.Proofs.YtcnekpdoldljgaaW.PrintMore
attribute [local go_sem] max2_int min2_int max_two min_two max_three min_three max_four min_four   
set_option linter.unusedVariables false
set_option linter.unusedSimpArgs false
open Go.Proofs.Ytcnekpdoldljgaa.ORows Go.Proofs.Ytcnekpdoldljgaa.Red Go.Proofs.Ytcnekpdoldljgaa.Mem
theorem inverse_one : impl_inverse.f 5 1 2 = some 1 := by kernel_rfl
theorem wS_r {n : Nat} (h : n < 4611686018427387904) : wrap64 ((n : Int) + 1) = ((n + 1 : Nat) : Int) := by unfold wrap64; omega
theorem bit_times {x : Int} (h : x = 0 ∨ x = 1) : Int.tmod (wrap64 (x * 1)) 2 = x := by
 have e : wrap64 (x * 1) = x := by unfold wrap64; omega
 rw [e]
 rcases h with rfl | rfl <;> rfl
set_option maxHeartbeats 16000000 in
set_option maxRecDepth 100000 in
theorem reduced_walk (n : Nat) (hn : n ≤ 12) (bs : List (Nat × Nat)) (h12 : bs.length ≤ 12) (hnd : (bs.map Prod.fst).Nodup) (F : Nat → List Int) (W0 w : World) (A : Option Addr) (c : Nat) (hB : Below W0.heap.size W0 w)
  (hL : (kE n).R 24 w W0.heap.size (fun _ => True) (.slice A bs.length c) bs) (hO : Go.Proofs.Ytcnekpdoldljgaa.ORows.Own n W0.heap.size F bs w) (hne : ∀ p ∈ bs, some p.1 ≠ (Value.slice A bs.length c).ownBlock) (hok : RedOk F bs) :
  Calls Try.prog 176 #[.slice A bs.length c, .int .i64 2] w fun e w' => ∃ A' c', e = .returned (.slice A' (redAt F bs bs.length).2.length c') ∧ Below W0.heap.size W0 w' := by
 obtain ⟨N0, hN0⟩ : ∃ N0, N0 = w.heap.size := ⟨_, rfl⟩
 have hlst : Kd.F (kE n) w (fun k => k < N0 ∧ ∀ p ∈ bs, p.1 ≠ k) A bs.length bs := Kd.F_mono (Kd.F_bound (Kd.R_F (Kd.R_tight rfl hL))) (fun k hk => ⟨by rw [hN0]; exact hk.2, fun p hp e => hne p hp (by rw [e]; exact hk.1)⟩)
 have hlow : ∀ p ∈ bs, p.1 < N0 := fun p hp => by rw [hN0]; exact (hO.row p hp).lt
 have HLST := Aside0.mk hlst
 have HLOW := Aside0.mk hlow
 have HO := Aside0.mk hO
 have HB := Aside0.mk hB
 have HN0 := Aside0.mk hN0
 have HN := Aside0.mk hn
 have H12 := Aside0.mk h12
 have HND := Aside0.mk hnd
 have HOK := Aside0.mk hok
 clear hlst hlow hL hO hne hok hB hN0 hn h12 hnd
 go_enter Try.func176, Try.ntmps176
 go_wp2_with (first
  | ((with_reducible refine gate_dst (N := 15) rfl ?_); refine Kd.R_lit (kE n) (w0 := W0) W0.heap.size 24 ?hg (N := 15) ?hd (xs := ([] : List (Nat × Nat))) (inner := []) (ok := fun _ => True) (okp := fun _ => False) ?hr ?hp (fun _ hk => hk.elim) trivial HB.out HB.out.size (by simp) ?_; (case hd => rfl); (case hg => rfl); (case hr => first | (go_simp; done) | (go_simp; rfl)); (case hp => exact (Reps.none _ _)); intro v1 w1 ho hb hg_ hnew_; have HI1 := Aside0.mk (show RInv n N0 W0 bs A F v1 [] w1 from by
    obtain ⟨b, hb1, hb2⟩ := hnew_
    refine ⟨HO.out.grown hg_ (fun _ _ e => by cases e), Kd.F_grown HLST.out hg_ (fun _ _ e => by cases e), ⟨b, hb1, by rw [HN0.out]; exact hb2, Kd.R_mono (Kd.R_tight rfl ho) (fun k hk => by rw [hb1] at hk; exact Option.some.inj hk)⟩, hb, HLOW.out, by rw [HN0.out]; exact hg_.size⟩); clear ho hb hg_ hnew_))
 go_loopw [18, 5] (fun i out wr => ∃ x : Nat, i = .int .i64 (x : Int) ∧ Aside0 (x ≤ bs.length) ∧ Aside0 (RInv n N0 W0 bs A (redAt F bs x).1 out (redAt F bs x).2 wr))
  (fun i _ _ => bs.length - (intOf i).toNat)
 case atStart => exact ⟨0, rfl, ⟨Nat.zero_le _⟩, ⟨by first | exact HI1.out | exact HI1.out.drewN _ | exact (HI1.out.drewN _).drewN _⟩⟩
 case round =>
  obtain ⟨x, rfl, HX, HI⟩ := hrel
  obtain ⟨Ao, co, rfl⟩ : ∃ Ao co, u5 = .slice Ao (redAt F bs x).2.length co := by
   obtain ⟨g, _, _, hr⟩ := HI.out.out
   exact Kd.R_slice hr
  by_cases hlt : x < bs.length
  rotate_left
  ·have t1 : decide ((x : Int) < (bs.length : Int)) = false := decide_eq_false (by omega)
   have t2 : decide (x < bs.length) = false := decide_eq_false hlt
   have hxe : x = bs.length := by have := HX.out; omega
   rw [hxe] at HI ⊢
   obtain ⟨g, hg1, hg2, hg3⟩ := HI.out.out
   obtain ⟨ad, rfl⟩ : ∃ ad, Ao = some ad := by
    cases Ao with
    | none => cases hg1
    | some ad => exact ⟨ad, rfl⟩
   obtain ⟨g', rfl⟩ := Kd.R_head hg3
   obtain rfl : g' = g := Option.some.inj hg1
   have hsub2 : ∀ p ∈ (redAt F bs bs.length).2, p ∈ bs := fun p hp => List.mem_of_mem_take ((redAt_sub F bs bs.length (Nat.le_refl _)).1 p hp)
   have hlen2 : (redAt F bs bs.length).2.length ≤ 12 := Nat.le_trans (redAt_sub F bs bs.length (Nat.le_refl _)).2 H12.out
   have HSORT := Aside0.mk (sort_rows n bs (redAt F bs bs.length).1 W0.heap.size W0.heap.size _ wr HI.out.own (by have := HN.out; omega) g' co _ hsub2 hg3 hlen2 (fun p hp e => by have := HI.out.low p hp; omega))
   have HGB := Aside0.mk (show W0.heap.size ≤ g' from by have := HB.out.size; have := HN0.out; omega)
   obtain ⟨L, hL⟩ : ∃ L, L = (redAt F bs bs.length).2.length := ⟨_, rfl⟩
   rw [← hL] at HSORT ⊢
   have HL := Aside0.mk hL
   clear hg1 hg2 hg3 hsub2 hlen2 hL hxe
   go_wp2_with (first | (go_at_call 191; refine HSORT.out.mono ?_; rintro e w3 ⟨rfl, hg3⟩; have HG3 := Aside0.mk hg3; clear hg3))
   first | go_end0 | go_ret
   refine ⟨some ⟨g', 0, none⟩, co, by rw [← HL.out]; rfl, ?_⟩
   exact (HI.out.bel.grown HG3.out HI.out.bel.size (fun j hj => by cases hj; exact HGB.out))
  have t1 : decide ((x : Int) < (bs.length : Int)) = true := decide_eq_true (by omega)
  have t2 : decide (x < bs.length) = true := decide_eq_true hlt
  obtain ⟨ad, ead, hcell⟩ := cell_of_E (Kd.F_now HI.out.lst) x hlt
  subst ead
  obtain ⟨b, cb, hbc⟩ : ∃ b cb, bs.getD x (0, 0) = (b, cb) := ⟨_, _, rfl⟩
  have hmem : (b, cb) ∈ bs := by rw [← hbc, List.getD_eq_getElem?_getD, List.getElem?_eq_getElem hlt]; exact List.getElem_mem hlt
  have hSO := HOK.out x hlt
  rw [hbc] at hcell hSO
  replace hcell : wr.cell? (ad.add x) = some (.slice (some ⟨b, 0, none⟩) n cb) := hcell
  obtain ⟨st, hst⟩ : ∃ st, redAt F bs x = st := ⟨_, rfl⟩
  have hnext : redAt F bs (x + 1) = stepF st (b, cb) := by rw [redAt_succ F bs hlt, hst, hbc]
  have hsub : ∀ q ∈ st.2, q ∈ bs ∧ q.1 ≠ b := fun q hq => by
   have := (redAt_sub F bs x (Nat.le_of_lt hlt)).1 q (by rw [hst]; exact hq)
   exact ⟨List.mem_of_mem_take this, by have h := taken_ne HND.out hlt this; rw [hbc] at h; exact h⟩
  have hlen : st.2.length ≤ 12 := by have := (redAt_sub F bs x (Nat.le_of_lt hlt)).2; rw [hst] at this; have := HX.out; have := H12.out; omega
  rw [hst] at HI hSO ⊢
  have HM := Aside0.mk hmem
  have HSO := Aside0.mk hSO
  have HNX := Aside0.mk hnext
  have HSUB := Aside0.mk hsub
  have HLEN := Aside0.mk hlen
  have HLT := Aside0.mk hlt
  clear hmem hSO hnext hsub hlen hst hbc
  obtain ⟨wo, hwo⟩ : ∃ wo, wo = wr := ⟨wr, rfl⟩
  subst hwo
  go_wp2_with fail
  go_loopw [24] (fun j wq => ∃ y : Nat, j = .int .i64 (y : Int) ∧ Aside0 (y ≤ st.2.length) ∧ Aside0 (RInv n N0 W0 bs (some ad) (absAt st b y) (.slice Ao st.2.length co) st.2 wq))
   (fun j _ => st.2.length - (intOf j).toNat)
  case atStart => exact ⟨0, rfl, ⟨Nat.zero_le _⟩, ⟨by rw [absAt_zero]; first | exact HI.out | exact HI.out.drewN _⟩⟩
  case round =>
   obtain ⟨y, rfl, HY, HJ⟩ := hrel
   by_cases hy : y < st.2.length
   ·have s1 : decide ((y : Int) < (st.2.length : Int)) = true := decide_eq_true (by omega)
    have s2 : decide (y < st.2.length) = true := decide_eq_true hy
    obtain ⟨g, hg1, hg2, hg3⟩ := HJ.out.out
    obtain ⟨ao, eao, hcell2⟩ := cell_of_E (Kd.R_reads' hg3).2.2 y hy
    subst eao
    clear hg1 hg2 hg3 g
    obtain ⟨d, m, hdm⟩ : ∃ d m, st.2.getD y (0, 0) = (d, m) := ⟨_, _, rfl⟩
    have hdmem : (d, m) ∈ st.2 := by rw [← hdm, List.getD_eq_getElem?_getD, List.getElem?_eq_getElem hy]; exact List.getElem_mem hy
    have hle := HSO.out.abs y hy
    have hst2 := absAt_succ st b hy
    rw [hdm] at hcell2 hle hst2
    replace hcell2 : wr.cell? (ao.add y) = some (.slice (some ⟨d, 0, none⟩) n m) := hcell2
    have HCALL := Aside0.mk (HJ.out.lessCall HM.out (HSUB.out _ hdmem).1 (HSUB.out _ hdmem).2 hle)
    have HS2 := Aside0.mk (show upd (absAt st b y) b (lessV (absAt st b y b) (absAt st b y d)) = absAt st b (y + 1) from hst2.symm)
    clear hdm hdmem hle hst2
    go_wp2_with (first | (go_at_call 189; refine HCALL.out.mono ?_; rintro e w3 ⟨rfl, hi3⟩; rw [HS2.out] at hi3; have HI3 := Aside0.mk hi3; clear hi3))
    go_roundw
    case rel => exact ⟨y + 1, congrArg _ (wS_r (by have := HLEN.out; omega)), ⟨hy⟩, ⟨by first | exact HI3.out | exact HI3.out.drewN _⟩⟩
    case measure => rw [wS_r (by have := HLEN.out; omega)]; simp [intOf]; omega
   have s1 : decide ((y : Int) < (st.2.length : Int)) = false := decide_eq_false (by omega)
   have s2 : decide (y < st.2.length) = false := decide_eq_false hy
   have hye : y = st.2.length := by have := HY.out; omega
   clear hy HY
   have HYE := Aside0.mk hye
   obtain ⟨F1, hF1⟩ : ∃ F1, absAt st b st.2.length = F1 := ⟨_, rfl⟩
   have hbit := HSO.out.bit
   have hstep := HNX.out
   unfold stepF at hstep
   have hspr := HSO.out.spr
   have hspz := sprAt_zero st b
   have hsps := fun j h => sprAt_succ st b (j := j) h
   rw [show ((b, cb) : Nat × Nat).1 = b from rfl, hF1] at hstep
   rw [hye, hF1] at HJ
   rw [hF1] at hbit hspr hspz
   have HFC := Aside0.mk (HJ.out.firstCall HM.out (by have := HN.out; omega))
   have hlen1 : (F1 b).length = n := (HJ.out.own.row _ HM.out).len
   obtain ⟨wb, hwb⟩ : ∃ wb, wb = wr := ⟨wr, rfl⟩
   subst hwb
   rcases firstV_at (F1 b) with hv | ⟨K, hK, hv, hnz, _⟩
   ·rw [if_pos (by rw [hv]; decide)] at hstep
    rw [hv] at HFC
    have HST := Aside0.mk hstep
    clear hstep hbit hspr hspz hsps hv hF1 hye hlen1
    go_wp2_with (first | (go_at_call 190; refine HFC.out.mono ?_; rintro e w3 ⟨rfl, ⟨nd, rfl⟩⟩))
    go_roundw
    case rel => exact ⟨x + 1, congrArg _ (wS_r (by have := H12.out; omega)), ⟨hlt⟩, ⟨by rw [HST.out]; exact HJ.out.drewN _⟩⟩
    case measure => rw [wS_r (by have := H12.out; omega)]; simp [intOf]; omega
   ·rw [if_neg (by rw [hv]; omega)] at hstep
    rw [hv] at HFC
    rw [hlen1] at hK
    have hone : (F1 b).getD K 0 = 1 := by
     rcases hbit _ (show (F1 b).getD K 0 ∈ F1 b from by rw [List.getD_eq_getElem?_getD, List.getElem?_eq_getElem (by rw [hlen1]; exact hK)]; exact List.getElem_mem _) with h | h
     ·exact absurd h hnz
     ·exact h
    have hcK := (HJ.out.cell HM.out K hK).1
    rw [hone] at hcK
    have HST := Aside0.mk hstep
    have HBIT := Aside0.mk hbit
    have HSPR := Aside0.mk (hspr (by rw [hv]; omega))
    have HSPZ := Aside0.mk hspz
    have HSPS := Aside0.mk hsps
    have HLN1 := Aside0.mk hlen1
    have s3 : decide ((K : Int) < 0) = false := decide_eq_false (by omega)
    have s4 : decide ((K : Int) < (n : Int)) = true := decide_eq_true (by omega)
    have s5 : decide (K < n) = true := decide_eq_true hK
    have HIV := Aside0.mk (fun w => impl_inverse.calls 5 1 2 1 w inverse_one)
    clear hstep hbit hspr hspz hsps hv hF1 hye hlen1 hnz hone
    go_wp2_with (first | (go_at_call 190; refine HFC.out.mono ?_; rintro e w3 ⟨rfl, ⟨nd, rfl⟩⟩) | (go_at_call 112; refine (HIV.out _).mono ?_; rintro e w3 ⟨rfl, ⟨nd2, rfl⟩⟩))
    go_loopw [45] (fun j wq => ∃ z : Nat, j = .int .i64 (z : Int) ∧ Aside0 (z ≤ n) ∧ Aside0 (RInv n N0 W0 bs (some ad) F1 (.slice Ao st.2.length co) st.2 wq))
     (fun j _ => n - (intOf j).toNat)
    case atStart => exact ⟨0, rfl, ⟨Nat.zero_le _⟩, ⟨by first | exact HJ.out.drewN _ | exact (HJ.out.drewN _).drewN _⟩⟩
    case round =>
     obtain ⟨z, rfl, HZ, HQ⟩ := hrel
     by_cases hz : z < n
     ·have r1 : decide ((z : Int) < (n : Int)) = true := decide_eq_true (by omega)
      have r2 : decide (z < n) = true := decide_eq_true hz
      obtain ⟨q, hq⟩ : ∃ q, (F1 b).getD z 0 = q := ⟨_, rfl⟩
      obtain ⟨hcz, hfz⟩ := HQ.out.cell HM.out z hz
      have hqb : q = 0 ∨ q = 1 := by
       rw [← hq]
       exact HBIT.out _ (by rw [List.getD_eq_getElem?_getD, List.getElem?_eq_getElem (by rw [HLN1.out]; exact hz)]; exact List.getElem_mem _)
      rw [hq] at hcz
      have htm := bit_times hqb
      rw [Int.mul_one] at htm
      have HTM := Aside0.mk htm
      have HSET := Aside0.mk (fun m => (HQ.out.drewN m).setSame HM.out z hz q hq)
      have HSET0 := Aside0.mk (HQ.out.setSame HM.out z hz q hq)
      clear hqb hq htm
      go_wp2_with fail
      go_roundw
      case rel => exact ⟨z + 1, congrArg _ (wS_r (by have := HN.out; omega)), ⟨hz⟩, ⟨by rw [HTM.out]; first | exact HSET0.out | exact HSET.out _ | exact HSET0.out.drewN _⟩⟩
      case measure => rw [wS_r (by have := HN.out; omega)]; simp [intOf]; omega
     have r1 : decide ((z : Int) < (n : Int)) = false := decide_eq_false (by omega)
     have r2 : decide (z < n) = false := decide_eq_false hz
     go_wp2_with fail
     go_loopw [62] (fun j wq => ∃ y : Nat, j = .int .i64 (y : Int) ∧ Aside0 (y ≤ st.2.length) ∧ Aside0 (RInv n N0 W0 bs (some ad) (sprAt st b y) (.slice Ao st.2.length co) st.2 wq))
      (fun j _ => st.2.length - (intOf j).toNat)
     case atStart => exact ⟨0, rfl, ⟨Nat.zero_le _⟩, ⟨by rw [HSPZ.out]; first | exact HQ.out | exact HQ.out.drewN _⟩⟩
     case round =>
      obtain ⟨y2, rfl, HY2, HJ2⟩ := hrel
      by_cases hy2 : y2 < st.2.length
      ·have r3 : decide ((y2 : Int) < (st.2.length : Int)) = true := decide_eq_true (by omega)
       have r4 : decide (y2 < st.2.length) = true := decide_eq_true hy2
       obtain ⟨g, hg1, hg2, hg3⟩ := HJ2.out.out
       obtain ⟨ao, eao, hcell2⟩ := cell_of_E (Kd.R_reads' hg3).2.2 y2 hy2
       subst eao
       clear hg1 hg2 hg3 g
       obtain ⟨d, m, hdm⟩ : ∃ d m, st.2.getD y2 (0, 0) = (d, m) := ⟨_, _, rfl⟩
       have hdmem : (d, m) ∈ st.2 := by rw [← hdm, List.getD_eq_getElem?_getD, List.getElem?_eq_getElem hy2]; exact List.getElem_mem hy2
       have hle := HSPR.out y2 hy2
       have hst2 := HSPS.out y2 hy2
       rw [hdm] at hcell2 hle hst2
       replace hcell2 : wr.cell? (ao.add y2) = some (.slice (some ⟨d, 0, none⟩) n m) := hcell2
       have HCALL := Aside0.mk (HJ2.out.lessCall (HSUB.out _ hdmem).1 HM.out (fun e => (HSUB.out _ hdmem).2 e.symm) hle)
       have HS2 := Aside0.mk (show upd (sprAt st b y2) d (lessV (sprAt st b y2 d) (sprAt st b y2 b)) = sprAt st b (y2 + 1) from hst2.symm)
       clear hdm hdmem hle hst2
       go_wp2_with (first | (go_at_call 189; refine HCALL.out.mono ?_; rintro e w3 ⟨rfl, hi3⟩; rw [HS2.out] at hi3; have HI3 := Aside0.mk hi3; clear hi3))
       go_roundw
       case rel => exact ⟨y2 + 1, congrArg _ (wS_r (by have := HLEN.out; omega)), ⟨hy2⟩, ⟨by first | exact HI3.out | exact HI3.out.drewN _⟩⟩
       case measure => rw [wS_r (by have := HLEN.out; omega)]; simp [intOf]; omega
      have r3 : decide ((y2 : Int) < (st.2.length : Int)) = false := decide_eq_false (by omega)
      have r4 : decide (y2 < st.2.length) = false := decide_eq_false hy2
      have hye2 : y2 = st.2.length := by have := HY2.out; omega
      rw [hye2] at HJ2
      have HAL := Aside0.mk (show (st.2.length + 1) * 24 ≤ 140737488355328 from by have := HLEN.out; omega)
      have HRO := Aside0.mk (show (kE n).R 24 wr W0.heap.size (fun _ => True) (.slice Ao st.2.length co) st.2 from by
       obtain ⟨g, _, _, h3⟩ := HJ2.out.out
       exact Kd.R_mono h3 (fun _ _ => trivial))
      go_wp2_with (first | (at_builtin; refine Kd.R_append (kE n) (w0 := W0) W0.heap.size rfl (.tmp 71) (.tmp 73) 39 24 (.slice none 0 0) 24 rfl Try.underlying39 info24 rfl (show 0 < 1 from Nat.one_pos) (by omega) (.slice Ao st.2.length co) st.2 (b, cb) [rowE n (b, cb)] (fun _ => True) (fun _ => False) rfl rfl ?aP (fun _ hk => hk.elim) ?aF ?aO ?aB ?aS ?aL ?_; (case aP => exact rfl); (case aB => exact HJ2.out.bel); (case aF => exact (fun _ _ => trivial)); (case aO => exact HRO.out); (case aS => exact HJ2.out.bel.size); (case aL => exact HAL.out); intro v5 w5 ho hb hg hat; have HI5 := Aside0.mk (HJ2.out.app ho hb hg hat); clear ho hb hg hat))
      go_roundw
      case rel => exact ⟨x + 1, congrArg _ (wS_r (by have := H12.out; omega)), ⟨hlt⟩, ⟨by rw [HST.out]; first | exact HI5.out | exact HI5.out.drewN _⟩⟩
      case measure => rw [wS_r (by have := H12.out; omega)]; simp [intOf]; omega
end Go.Proofs.Ytcnekpdoldljgaa.F
end
section
namespace Go.Proofs.Ytcnekpdoldljgaa.F
open Go.RowKit Go.Proofs.YtcnekpdoldljgaaW.PrintWords Go.Proofs.YtcnekpdoldljgaaW.PrintLast Go.Proofs.YtcnekpdoldljgaaW.PrintMore
attribute [local go_sem] max2_int min2_int max_two min_two max_three min_three max_four min_four   
set_option linter.unusedVariables false
set_option linter.unusedSimpArgs false
open Go.Proofs.Ytcnekpdoldljgaa.ORows Go.Proofs.Ytcnekpdoldljgaa.Red Go.Proofs.Ytcnekpdoldljgaa.Mem
set_option maxHeartbeats 4000000 in
set_option maxRecDepth 100000 in
theorem rank_walk (k : Nat) (l0 : List Int) (rs : List (List Int)) (n r : Nat) (A0 : Option Addr) (c0 : Nat) (w : World) (hr0 : Kd.C (Kd.int .i64) w A0 l0.length l0) (hc0 : l0.length ≤ c0) (hk : impl_rows.f k l0 = some rs) (hb : ∀ q ∈ rs, Bits q ∧ q.length = n) (hl : rs.length = n) (hn : n ≤ 12) (hr : IsRank rs r) :
    Calls Try.prog 148 #[.slice A0 l0.length c0] w fun e w' => e = .returned (.int .i64 (r : Int)) ∧ Below w.heap.size w w' := by
  have HROWS := Aside0.mk (impl_rows.calls k A0 c0 l0 rs w hr0 hc0 hk)
  have hred : ∀ (v : Value) (w1 : World), Kd.S (Kd.slice 2 (Kd.int .i64)) 24 w1 w.heap.size (fun _ => True) v rs → Below w.heap.size w w1 → ∃ A c, v = .slice A n c ∧
      Calls Try.prog 176 #[.slice A n c, .int .i64 2] w1 fun e w' => ∃ A' c', e = .returned (.slice A' r c') ∧ Below w.heap.size w w' := by
    intro v w1 hS hB
    obtain ⟨bs, F, hnd, hR, hO, hm, hne⟩ := own_rows0 hS (fun q hq => (hb q hq).2) (by
      rcases Nat.eq_zero_or_pos n with h | h
      · exact .inl (List.eq_nil_of_length_eq_zero (hl.trans h))
      · exact .inr h)
    have hbl : bs.length = n := by rw [← hl, ← hm, List.length_map]
    obtain ⟨A, c, rfl⟩ := Kd.R_slice hR
    have hbits : ∀ p ∈ bs, Bits (F p.1) ∧ (F p.1).length = n := fun p hp => hb _ (by rw [← hm]; exact List.mem_map.2 ⟨p, hp, rfl⟩)
    obtain ⟨hok, hrank⟩ := red_ok hnd (by omega) hbits
    rw [hm] at hrank
    have hw := reduced_walk n hn bs (by omega) hnd F w w1 A c hB hR hO hne hok
    rw [hrank.unique hr, hbl] at hw
    exact ⟨A, c, by rw [hbl], hw⟩
  have HRED := Aside0.mk hred
  clear hr0 hc0 hk hb hl hn hr hred
  go_enter Try.func148, Try.ntmps148
  go_wp2_with (first
    | (go_at_call 71; refine HROWS.out.mono ?_; rintro e w1 ⟨v, rfl, hS, hB⟩; obtain ⟨A1, c1, rfl, hred1⟩ := HRED.out v w1 hS hB; have HR1 := Aside0.mk hred1; clear hS hB hred1)
    | (go_at_call 176; refine HR1.out.mono ?_; rintro e w2 ⟨A2, c2, rfl, hB2⟩; have HB2 := Aside0.mk hB2; clear hB2))
  go_ret
  exact ⟨rfl, HB2.out⟩
end Go.Proofs.Ytcnekpdoldljgaa.F
end
section
namespace Go.Proofs.Ytcnekpdoldljgaa.F
open Go.RowKit Go.Proofs.YtcnekpdoldljgaaW.PrintWords Go.Proofs.YtcnekpdoldljgaaW.PrintLast Go.Proofs.YtcnekpdoldljgaaW.PrintMore
attribute [local go_sem] max2_int min2_int max_two min_two max_three min_three max_four min_four   
set_option linter.unusedVariables false
set_option linter.unusedSimpArgs false
def impl_times.l0 : Nat → Int → List Int → List Int → Int → Int → Option (List Int)
 | 0, _, _, _, _, _ => none
 | k + 1, x1, x5, x12, x13, x14 => if x14 < x13 then (if 0 ≤ x14 then (if x14 < (x12.length : Int) then (if 0 ≤ (wrap64 (x14 + 1)) then (if (wrap64 (x14 + 1)) < (x5.length : Int) then ((some (x5.set ((wrap64 (x14 + 1)) : Int).toNat (wrap64 ((rd x5 (wrap64 (x14 + 1))) + (rd x12 x14))) : List Int)).bind fun y1491006 => (if x14 < (x5.length : Int) then (impl_times.l0 k x1 (y1491006.set (x14 : Int).toNat (wrap64 ((rd y1491006 x14) - (wrap64 (x1 * (rd x12 x14)))))) x12 x13 (wrap64 (x14 + 1))) else (none))) else (none)) else (none)) else (none)) else (none)) else (some x5)
def impl_times.f (k : Nat) (l0 : List Int) (a1 : Int) : Option (List Int) := if 0 ≤ (wrap64 ((l0.length : Int) + 1)) then (if (wrap64 ((l0.length : Int) + 1) : Int).toNat ≤ 35184372088832 then (impl_times.l0 k a1 (List.replicate (wrap64 ((l0.length : Int) + 1) : Int).toNat 0) l0 (l0.length : Int) 0) else (none)) else (none)
theorem impl_times.mono_l : ∀ k, (∀ y0 y1 y2 y3 y4, LeO (impl_times.l0 k y0 y1 y2 y3 y4) (impl_times.l0 (k + 1) y0 y1 y2 y3 y4))
 | 0 => fun _ _ _ _ _ r h => by simp [impl_times.l0] at h
 | k + 1 => by
  have ih0 := impl_times.mono_l k
  ·intro y0 y1 y2 y3 y4
   unfold impl_times.l0
   repeat' first
   | (with_reducible exact ih0 _ _ _ _ _)
   | (with_reducible exact LeO.refl _)
   | (with_reducible exact LeO.none _)
   | (with_reducible refine LeO.ite ?_ ?_)
   | (with_reducible refine LeO.bind ?_ (fun _ => ?_))
   | exact ih0 _ _ _ _ _
   | exact LeO.none _
   | refine LeO.ite ?_ ?_
   | refine LeO.bind ?_ (fun _ => ?_)
theorem impl_times.mono : ∀ a0 a1 k, LeO (impl_times.f k a0 a1) (impl_times.f (k + 1) a0 a1) := by
 intro a0 a1 k
 have ih0 := impl_times.mono_l k
 unfold impl_times.f
 repeat' first
   | (with_reducible exact ih0 _ _ _ _ _)
   | (with_reducible exact LeO.refl _)
   | (with_reducible exact LeO.none _)
   | (with_reducible refine LeO.ite ?_ ?_)
   | (with_reducible refine LeO.bind ?_ (fun _ => ?_))
   | exact ih0 _ _ _ _ _
   | exact LeO.none _
   | refine LeO.ite ?_ ?_
   | refine LeO.bind ?_ (fun _ => ?_)
set_option maxHeartbeats 8000000 in
set_option maxRecDepth 100000 in
theorem impl_times.calls (k : Nat) (A0 : Option Addr) (c0 : Nat) (l0 : List Int) (a1 : Int) (r : List Int) (w : World) (hr0 : Kd.C (Kd.int .i64) w A0 l0.length l0) (hc0 : l0.length ≤ c0) (h : impl_times.f k l0 a1 = some r) :
  Calls Try.prog 149 #[.slice A0 l0.length c0, .int .i64 a1] w fun e w' => ∃ v0_ : Value, e = .returned (v0_) ∧ Kd.R (Kd.int .i64) 2 w' w.heap.size (fun _ => True) v0_ r ∧ Below w.heap.size w w' := by
 have HR0 := Aside0.mk hr0
 have HC0 := Aside0.mk hc0
 clear hr0 hc0
 have HB := Aside0.mk (Below.refl w.heap.size w)
 have H : (if 0 ≤ (wrap64 ((l0.length : Int) + 1)) then (if (wrap64 ((l0.length : Int) + 1) : Int).toNat ≤ 35184372088832 then (impl_times.l0 k a1 (List.replicate (wrap64 ((l0.length : Int) + 1) : Int).toNat 0) l0 (l0.length : Int) 0) else (none)) else (none)) = some r := h
 clear h
 obtain ⟨ji3, hji3⟩ : ∃ j_ : Int, (wrap64 ((l0.length : Int) + 1)) = j_ := ⟨_, rfl⟩
 replace H : (if 0 ≤ (ji3) then (if (ji3 : Int).toNat ≤ 35184372088832 then (impl_times.l0 k a1 (List.replicate (ji3 : Int).toNat 0) l0 (l0.length : Int) 0) else (none)) else (none)) = some r := by first | (rw [hji3] at H; exact H) | (simp only [hji3] at H ⊢; exact H)
 have hji3w : (IntKind.i64.wrap ((l0.length : Int) + 1)) = ji3 := (i64_w _).trans hji3
 by_cases c4 : 0 ≤ (ji3)
 rotate_left
 ·rw [if_neg c4] at H
  exact absurd H (by simp)
 rw [if_pos c4] at H
 have c4b0 := eq_true c4
 have c4b1 : decide (0 ≤ (ji3)) = true := decide_eq_true c4
 clear c4
 by_cases c5 : (ji3 : Int).toNat ≤ 35184372088832
 rotate_left
 ·rw [if_neg c5] at H
  exact absurd H (by simp)
 rw [if_pos c5] at H
 have c5b0 := eq_true c5
 have c5b1 : decide ((ji3 : Int).toNat ≤ 35184372088832) = true := decide_eq_true c5
 clear c5
 obtain ⟨y1491001, hy1491001⟩ : ∃ y_ : List Int, y_ = (List.replicate (ji3 : Int).toNat 0) := ⟨_, rfl⟩
 replace H : (impl_times.l0 k a1 y1491001 l0 (l0.length : Int) 0) = some r := by first | (rw [hy1491001]; with_reducible exact H) | (have H2_ := (Option.bind_some _ _).symm.trans H; rw [hy1491001]; with_reducible exact H2_) | (have H2_ := (Option.bind_some _ _).symm.trans H; with_reducible exact H2_) | with_reducible exact H | (rw [hy1491001]; exact H) | exact H
 have Ny1491001 := Aside0.mk hy1491001
 clear hy1491001
 have H' := Aside0.mk H
 clear H
 go_enter Try.func149, Try.ntmps149
 go_wp2_with (first | ((with_reducible refine gate_dst (N := 11) rfl ?_); refine Kd.R_make (Kd.int .i64) _ 2 rfl (N := 11) rfl 24 _ _ rfl ji3 rfl rfl Try.underlying24 (.int .i64 0) 8 info2 rfl (by decide) (by omega) 0 (ok := fun _ => True) (okp := fun _ => True) rfl (fun _ hk => hk) trivial (of_decide_eq_true (by first | (with_reducible assumption) | assumption)) (Nat.le_trans (Nat.mul_le_mul_right _ (of_decide_eq_true (by first | (with_reducible assumption) | assumption) : ji3.toNat ≤ 35184372088832)) (by omega)) (Below.refl _ _) (Nat.le_refl _) ?_; intro v1491002 w6 ho7 hb hg_ hnew_; clear hg_ hnew_; (first | rw [← Ny1491001.out] at ho7 | (simp only [Int.reduceToNat] at ho7; rw [← Ny1491001.out] at ho7)); have n0_ := Aside0.mk (Kd.R_lower ho7 (below_size (by repeat (first | (with_reducible first | exact HB.out | apply below_alloc | apply pw_below_drewN | apply below_drew1) | exact HB.out)))); have n1_ := Aside0.mk (below_step (by repeat (first | (with_reducible first | exact HB.out | apply below_alloc | apply pw_below_drewN | apply below_drew1) | exact HB.out)) hb); clear HB; have HO1491003 := n0_; have HB := n1_; clear n0_ n1_; clear hb ho7))
 go_loopg [14] k (fun kq v14 w' => ∃ (x5_1 : List Int) (x14_1 : Int), v14 = .int .i64 x14_1 ∧ Aside0 (impl_times.l0 kq a1 x5_1 l0 (l0.length : Int) x14_1 = some r) ∧ Aside0 (kq ≤ k) ∧ Aside0 (Kd.R (Kd.int .i64) 2 w' w.heap.size (fun _ => True) v1491002 x5_1) ∧ Aside0 (Below w.heap.size w w'))
 case atStart => exact ⟨(y1491001), (0), (by first | rfl | (simp; done) | (simp [*]; done)), H', ⟨Nat.le_refl _⟩, ⟨by (with_reducible repeat (first | apply Kd.R_alloc | apply Kd.R_drewN | apply Kd.R_drew)); exact HO1491003.out⟩, ⟨by repeat (first | (with_reducible first | exact HB.out | apply below_alloc | apply pw_below_drewN | apply below_drew1) | exact HB.out)⟩⟩
 case round =>
  clear H'
  try clear c1
  try clear p2
  try clear c4
  try clear c4b0
  try clear c4b1
  try clear c5
  try clear c5b0
  try clear c5b1
  try clear p6
  obtain ⟨x5_1, x14_1, rfl, HA, HK1, HO_5, HB⟩ := hrel
  cases gk with
  | zero => exact absurd HA.out (by simp [impl_times.l0])
  | succ k1 =>
   have H := HA.out
   clear HA
   simp only [impl_times.l0] at H
   by_cases c8 : x14_1 < (l0.length : Int)
   rotate_left
   ·rw [if_neg c8] at H
    have c8b0 : decide (x14_1 < (l0.length : Int)) = false := decide_eq_false c8
    clear c8
    obtain rfl := Option.some.inj H
    go_wp2
    go_ret
    exact ⟨_, by first | rfl | (simp [errW_none, errW_some] <;> rfl) | (simp only [← hji3]; first | rfl | (simp [errW_none, errW_some] <;> rfl)) | (simp [*, errW_none, errW_some] <;> rfl), by (with_reducible repeat (first | apply Kd.R_alloc | apply Kd.R_drewN | apply Kd.R_drew)); exact HO_5.out, by repeat (first | (with_reducible first | exact HB.out | apply below_alloc | apply pw_below_drewN | apply below_drew1) | exact HB.out)⟩
   rw [if_pos c8] at H
   have c8b0 : decide (x14_1 < (l0.length : Int)) = true := decide_eq_true c8
   clear c8
   by_cases c9 : 0 ≤ x14_1
   rotate_left
   ·rw [if_neg c9] at H
    exact absurd H (by simp)
   rw [if_pos c9] at H
   have c9b0 : decide (0 ≤ x14_1) = true := decide_eq_true c9
   clear c9
   by_cases c10 : x14_1 < (l0.length : Int)
   rotate_left
   ·rw [if_neg c10] at H
    exact absurd H (by simp)
   rw [if_pos c10] at H
   have c10b0 : decide (x14_1 < (l0.length : Int)) = true := decide_eq_true c10
   clear c10
   obtain ⟨ji11, hji11⟩ : ∃ j_ : Int, (wrap64 (x14_1 + 1)) = j_ := ⟨_, rfl⟩
   replace H : (if 0 ≤ (ji11) then (if (ji11) < (x5_1.length : Int) then ((some (x5_1.set ((ji11) : Int).toNat (wrap64 ((rd x5_1 (ji11)) + (rd l0 x14_1))) : List Int)).bind fun y1491006 => (if x14_1 < (x5_1.length : Int) then (impl_times.l0 k1 a1 (y1491006.set (x14_1 : Int).toNat (wrap64 ((rd y1491006 x14_1) - (wrap64 (a1 * (rd l0 x14_1)))))) l0 (l0.length : Int) ji11) else (none))) else (none)) else (none)) = some r := by first | (rw [hji11] at H; exact H) | (simp only [hji11] at H ⊢; exact H)
   have hji11w : (IntKind.i64.wrap (x14_1 + 1)) = ji11 := (i64_w _).trans hji11
   by_cases c12 : 0 ≤ (ji11)
   rotate_left
   ·rw [if_neg c12] at H
    exact absurd H (by simp)
   rw [if_pos c12] at H
   have c12b0 : decide (0 ≤ (ji11)) = true := decide_eq_true c12
   clear c12
   by_cases c13 : (ji11) < (x5_1.length : Int)
   rotate_left
   ·rw [if_neg c13] at H
    exact absurd H (by simp)
   rw [if_pos c13] at H
   have c13b0 : decide ((ji11) < (x5_1.length : Int)) = true := decide_eq_true c13
   clear c13
   obtain ⟨y1491006, hy1491006⟩ : ∃ y_ : List Int, y_ = (x5_1.set ((ji11) : Int).toNat (wrap64 ((rd x5_1 (ji11)) + (rd l0 x14_1)))) := ⟨_, rfl⟩
   replace H : (if x14_1 < (x5_1.length : Int) then (impl_times.l0 k1 a1 (y1491006.set (x14_1 : Int).toNat (wrap64 ((rd y1491006 x14_1) - (wrap64 (a1 * (rd l0 x14_1)))))) l0 (l0.length : Int) ji11) else (none)) = some r := by first | (rw [hy1491006]; with_reducible exact H) | (have H2_ := (Option.bind_some _ _).symm.trans H; rw [hy1491006]; with_reducible exact H2_) | (have H2_ := (Option.bind_some _ _).symm.trans H; with_reducible exact H2_) | with_reducible exact H | (rw [hy1491006]; exact H) | exact H
   have Ny1491006 := Aside0.mk hy1491006
   clear hy1491006
   by_cases c15 : x14_1 < (x5_1.length : Int)
   rotate_left
   ·rw [if_neg c15] at H
    exact absurd H (by simp)
   rw [if_pos c15] at H
   have c15b0 : decide (x14_1 < (x5_1.length : Int)) = true := decide_eq_true c15
   clear c15
   obtain ⟨y1491008, hy1491008⟩ : ∃ y_ : List Int, y_ = (y1491006.set (x14_1 : Int).toNat (wrap64 ((rd y1491006 x14_1) - (wrap64 (a1 * (rd l0 x14_1)))))) := ⟨_, rfl⟩
   replace H : (impl_times.l0 k1 a1 y1491008 l0 (l0.length : Int) ji11) = some r := by first | (rw [hy1491008]; with_reducible exact H) | (have H2_ := (Option.bind_some _ _).symm.trans H; rw [hy1491008]; with_reducible exact H2_) | (have H2_ := (Option.bind_some _ _).symm.trans H; with_reducible exact H2_) | with_reducible exact H | (rw [hy1491008]; exact H) | exact H
   have Ny1491008 := Aside0.mk hy1491008
   clear hy1491008
   have H' := Aside0.mk H
   clear H
   have p1491004 : 0 ≤ (x14_1 : Int) := of_decide_eq_true (by first | (with_reducible assumption) | assumption)
   have q1491004 : x14_1 < (l0.length : Int) := of_decide_eq_true (by first | (with_reducible assumption) | assumption)
   obtain ⟨ad1491004, e1491004, hx1491004_0⟩ := Kd.at_int HR0.out x14_1 p1491004 q1491004
   cases e1491004
   replace hx1491004_0 := (HB.out.cell (World.block_lt_of_cell? w _ hx1491004_0)).trans hx1491004_0
   replace p1491004 := eq_true p1491004
   replace q1491004 := eq_true q1491004
   obtain ⟨Ao17, co17, eo17⟩ := Kd.R_slice HO_5.out
   subst eo17
   have p1491005 : 0 ≤ ((ji11) : Int) := of_decide_eq_true (by first | (with_reducible assumption) | assumption)
   have q1491005 : (ji11) < (x5_1.length : Int) := of_decide_eq_true (by first | (with_reducible assumption) | assumption)
   obtain ⟨ad1491005, e1491005, hx1491005_0⟩ := Kd.at_int (Kd.R_reads' HO_5.out).2.2 (ji11) p1491005 q1491005
   cases e1491005
   replace p1491005 := eq_true p1491005
   replace q1491005 := eq_true q1491005
   have p14 : 0 ≤ ((ji11) : Int) := of_decide_eq_true (by first | (with_reducible assumption) | assumption)
   have q14 : ((ji11) : Int) < ((x5_1.length : Int) : Int) := of_decide_eq_true (by first | (with_reducible assumption) | assumption)
   obtain ⟨go14, co14, eo14, gb14, gl14, cl14, HG14⟩ := Kd.R_form HO_5.out (by omega)
   (first | cases eo14 | (injection eo14 with ea_ en_ ec_; (first | subst ea_ | (injection ea_ with ea_; subst ea_)); subst ec_; clear en_))
   have GB14 := Aside0.mk gb14
   have GG14 := Aside0.mk HG14
   clear gb14 gl14 HG14
   (first | simp only [add_plain] at hx1491005_0 | skip)
   obtain ⟨hx14_0, hf14_0⟩ := Kd.R_celln 0 HO_5.out ((ji11) : Int) p14 q14
   replace p14 := eq_true p14
   replace q14 := eq_true q14
   have HP18 := Kd.R_putg HO_5.out ((ji11) : Int) (wrap64 ((rd x5_1 (ji11)) + (rd l0 x14_1)))
   go_wp2_with (first | ((with_reducible refine gate_store (t := 2) (p := 26) rfl ?_); refine store_event (t := 2) (p := 26) (v := ?vo_w19) (w1 := (wr.setCell ⟨go14, ((ji11) : Int).toNat, none⟩ (.int .i64 (wrap64 ((rd x5_1 (ji11)) + (rd l0 x14_1)))))) ?hg ?ho ?hn ?hr ?_; (case ho => rfl); (case hg => rfl); (case hn => rfl); (case hr => first | (go_simp; done) | (go_simp; rfl)); intro w19 hw; have hg : wr.grownBy w19 (some go14) := (by rw [hw]; exact HP18.2); have hp_ : Kd.R (Kd.int .i64) 2 w19 w.heap.size (fun _ => True) (.slice (some ⟨go14, 0, none⟩) x5_1.length co17) y1491006 := (by rw [hw, Ny1491006.out]; exact HP18.1); clear HP18; have n0_ := Aside0.mk (hp_); have n1_ := Aside0.mk ((by rw [hw]; exact below_set (HB.out) GB14.out : Below w.heap.size w w19)); clear HO_5; clear HB; have HO_5 := n0_; have HB := n1_; clear n0_ n1_; clear hg hw hp_; have p1491007 : 0 ≤ (x14_1 : Int) := of_decide_eq_true (by first | (with_reducible assumption) | assumption); have q1491007 : x14_1 < (y1491006.length : Int) := (by have h_ : (x14_1 : Int) < ((x5_1.length : Int) : Int) := of_decide_eq_true (by first | (with_reducible assumption) | assumption); first | (have e_ := (Kd.R_reads' HO_5.out).1; omega) | simpa only [Ny1491006.out, List.length_set] using h_); have ql1491007 : ((x14_1 : Int) < ((x5_1.length : Int) : Int)) = True := eq_true (of_decide_eq_true (by first | (with_reducible assumption) | assumption)); obtain ⟨ad1491007, e1491007, hx1491007_0⟩ := Kd.at_int (Kd.R_reads' HO_5.out).2.2 x14_1 p1491007 q1491007; obtain rfl : (⟨go14, 0, none⟩ : Addr) = ad1491007 := (by injection e1491007); (first | simp only [add_plain] at hx1491007_0 | simp only [add_at] at hx1491007_0 | simp only [Addr.add, Nat.zero_add] at hx1491007_0 | skip); replace p1491007 := eq_true p1491007; replace q1491007 := eq_true q1491007; have p16 : 0 ≤ (x14_1 : Int) := of_decide_eq_true (by first | (with_reducible assumption) | assumption); have q16 : (x14_1 : Int) < ((x5_1.length : Int) : Int) := of_decide_eq_true (by first | (with_reducible assumption) | assumption); obtain ⟨hx16_0, hf16_0⟩ := Kd.R_celln 0 HO_5.out (x14_1 : Int) p16 q16; replace p16 := eq_true p16; replace q16 := eq_true q16; obtain ⟨hy20_, hz20_⟩ := Kd.R_celln 0 HO_5.out (x14_1 : Int) (of_decide_eq_true (by first | (with_reducible assumption) | assumption)) (of_decide_eq_true (by first | (with_reducible assumption) | assumption)); have HP20 := Kd.R_putg HO_5.out (x14_1 : Int) (wrap64 ((rd y1491006 x14_1) - (wrap64 (a1 * (rd l0 x14_1)))))) | ((with_reducible refine gate_store (t := 2) (p := 35) rfl ?_); refine store_event (t := 2) (p := 35) (v := ?vo_w21) (w1 := (w19.setCell ⟨go14, (x14_1 : Int).toNat, none⟩ (.int .i64 (wrap64 ((rd y1491006 x14_1) - (wrap64 (a1 * (rd l0 x14_1)))))))) ?hg ?ho ?hn ?hr ?_; (case ho => rfl); (case hg => rfl); (case hn => rfl); (case hr => first | (go_simp; done) | (go_simp; rfl)); intro w21 hw; have hg : w19.grownBy w21 (some go14) := (by rw [hw]; exact HP20.2); have hp_ : Kd.R (Kd.int .i64) 2 w21 w.heap.size (fun _ => True) (.slice (some ⟨go14, 0, none⟩) x5_1.length co17) y1491008 := (by rw [hw, Ny1491008.out]; exact HP20.1); clear HP20; have n0_ := Aside0.mk (hp_); have n1_ := Aside0.mk ((by rw [hw]; exact below_set (HB.out) GB14.out : Below w.heap.size w w21)); clear HO_5; clear HB; have HO_5 := n0_; have HB := n1_; clear n0_ n1_; clear hg hw hp_))
   go_roundg k1
   case measure => have := HK1.out; omega
   case rel => exact ⟨(y1491008), (ji11), (by first | rfl | (simp; done) | (simp only [← hji11] <;> (first | rfl | simp)) | (simp [*]; done)), H', ⟨by have := HK1.out; omega⟩, ⟨by (with_reducible repeat (first | apply Kd.R_alloc | apply Kd.R_drewN | apply Kd.R_drew)); exact HO_5.out⟩, ⟨by repeat (first | (with_reducible first | exact HB.out | apply below_alloc | apply pw_below_drewN | apply below_drew1) | exact HB.out)⟩⟩
end Go.Proofs.Ytcnekpdoldljgaa.F
end
section
namespace Go.Proofs.Ytcnekpdoldljgaa.Pure
open Go.RowKit Go.Proofs.Ytcnekpdoldljgaa.F Go.Proofs.YtcnekpdoldljgaaW.PrintWords Go.Proofs.YtcnekpdoldljgaaW.PrintLast
theorem irow_l1 (w : List Int) (hw : Word w) (out : List (List Int)) (i : Nat) (hi : i < w.length / 2) (r : List (List Int))
    (hr : Ev (fun k => if out.length < 5864062014805 then impl_rows.l0 k w ((w.length / 2 : Nat) : Int) (out ++ [rowTo w i (w.length / 2)]) ((w.length / 2 : Nat) : Int) ((i + 1 : Nat) : Int) else none) r) :
    ∀ d m, m + d = w.length / 2 → Ev (fun k => impl_rows.l1 k w ((w.length / 2 : Nat) : Int) out (i : Int) (rowTo w i m ++ List.replicate d 0) ((w.length / 2 : Nat) : Int) (i : Int) ((w.length / 2 : Nat) : Int) (m : Int)) r := by
  have hle := hw.le
  intro d
  induction d with
  | zero =>
    intro m hm
    refine Ev.step (fun k => ?_) hr
    simp only [impl_rows.l1]
    rw [if_neg (by omega), wS (by omega), List.replicate_zero, List.append_nil, show m = w.length / 2 from by omega]
  | succ d ih =>
    intro m hm
    have hrow : rowTo w i (m + 1) ++ List.replicate d 0 = rowTo w i m ++ ent w i m :: List.replicate d 0 := by rw [rowTo_succ]; simp
    refine Ev_succ ?_
    simp only [impl_rows.l1]
    refine Ev.congr (fun k => if_pos (by omega)) ?_
    refine Ev.bind (icross_ev w hw i m hi (by omega)) ?_
    have hh := ih (m + 1) (by omega)
    rw [hrow] at hh
    have hl := rowTo_len w i m
    by_cases c : crossB w i m = true
    · refine Ev.congr (fun k => if_pos c) ?_
      rw [show ent w i m = 1 from by unfold ent; rw [if_pos c]] at hh
      refine Ev.congr (fun k => ?_) hh
      rw [if_pos (by omega), if_pos (by rw [List.length_append, hl, List.length_replicate]; omega), wS (by omega), Int.toNat_natCast, set_ent]
    · refine Ev.congr (fun k => if_neg c) ?_
      rw [show ent w i m = 0 from by unfold ent; rw [if_neg c], ← List.replicate_succ] at hh
      exact Ev.congr (fun k => by rw [wS (by omega)]) hh
theorem irow_l0 (w : List Int) (hw : Word w) : ∀ d n, n + d = w.length / 2 → Ev (fun k => impl_rows.l0 k w ((w.length / 2 : Nat) : Int) (rowsTo w n) ((w.length / 2 : Nat) : Int) (n : Int)) (rowsOf w) := by
  have hle := hw.le
  intro d
  induction d with
  | zero =>
    intro n hn
    refine Ev.step (f := fun _ => some (rowsOf w)) (fun k => ?_) (Ev.now _)
    simp only [impl_rows.l0]; rw [if_neg (by omega), show n = w.length / 2 from by omega]; rfl
  | succ d ih =>
    intro n hn
    refine Ev_succ ?_
    simp only [impl_rows.l0]
    refine Ev.congr (fun k => if_pos (by omega)) ?_
    refine Ev.congr (fun k => if_pos (by omega)) ?_
    refine Ev.congr (fun k => if_pos (by omega)) ?_
    have hl := rowsTo_len w n
    have h := irow_l1 w hw (rowsTo w n) n (by omega) _ (Ev.congr (fun k => if_pos (by omega)) (by have h := ih (n + 1) (by omega); rw [rowsTo_succ] at h; exact h)) (w.length / 2) 0 (by omega)
    rw [show rowTo w n 0 = [] from rfl, List.nil_append] at h
    exact Ev.congr (fun k => by rw [Int.toNat_natCast]; rfl) h
theorem irows_ev (w : List Int) (hw : Word w) : Ev (fun k => impl_rows.f k w) (rowsOf w) := by
  have hle := hw.le
  refine Ev.congr (fun k => ?_) (irow_l0 w hw (w.length / 2) 0 (by omega))
  unfold impl_rows.f
  rw [chords_f w hle, Option.bind_some]; rfl
end Go.Proofs.Ytcnekpdoldljgaa.Pure
end
section
namespace Go.Proofs.Ytcnekpdoldljgaa.Pure
open Go.RowKit Go.Proofs.Ytcnekpdoldljgaa.F Go.Proofs.YtcnekpdoldljgaaW.PrintWords Go.Proofs.YtcnekpdoldljgaaW.PrintLast
theorem index_none (l : List Int) (x : Int) (hb : l.length < 4611686018427387904) : ∀ d n, n + d = l.length → x ∉ l.drop n → Ev (fun k => slices_Index_int64_int64.l0 k l x (l.length : Int) (n : Int)) (-1) := by
  intro d
  induction d with
  | zero =>
    intro n hn _
    refine Ev.step (f := fun _ => some _) (fun k => ?_) (Ev.now _)
    simp only [slices_Index_int64_int64.l0]; rw [if_neg (by omega)]
  | succ d ih =>
    intro n hn hx
    rw [drop_cons (by omega)] at hx
    refine Ev.step (fun k => ?_) (ih (n + 1) (by omega) (fun h => hx (List.mem_cons_of_mem _ h)))
    simp only [slices_Index_int64_int64.l0]; rw [if_pos (by omega), if_pos (by omega), if_pos (by omega), rdN, if_neg (fun (e : x = l.getD n 0) => hx (e ▸ List.mem_cons_self)), wS (by omega)]
theorem contains_ev (l : List Int) (x : Int) (hb : l.length < 4611686018427387904) : Ev (fun k => slices_Contains_int64_int64.f k l x) (l.contains x) := by
  unfold slices_Contains_int64_int64.f
  by_cases h : x ∈ l
  · refine Ev.bind (index_ev l x hb h) ?_
    rw [show l.contains x = true from List.contains_iff_mem.2 h]
    exact Ev.congr (fun k => by rw [decide_eq_true (by omega)]) (Ev.now _)
  · have h0 : Ev (fun k => slices_Index_int64_int64.f k l x) (-1) := index_none l x hb l.length 0 (by omega) h
    refine Ev.bind h0 ?_
    rw [show l.contains x = false from by simpa using h]
    exact Ev.congr (fun k => by rw [decide_eq_false (by omega)]) (Ev.now _)
end Go.Proofs.Ytcnekpdoldljgaa.Pure
end
section
namespace Go.Proofs.Ytcnekpdoldljgaa.F
open Go.RowKit Go.Proofs.YtcnekpdoldljgaaW.PrintWords Go.Proofs.YtcnekpdoldljgaaW.PrintLast Go.Proofs.YtcnekpdoldljgaaW.PrintMore
attribute [local go_sem] max2_int min2_int max_two min_two max_three min_three max_four min_four   
set_option linter.unusedVariables false
set_option linter.unusedSimpArgs false
open Go.Proofs.Ytcnekpdoldljgaa.Pure Go.Proofs.Ytcnekpdoldljgaa.Mem Go.Proofs.Ytcnekpdoldljgaa.Red
theorem times_powC : ∀ m, m < 6 → impl_times.f 10 (powC m) 1 = some (powC (m + 1))
 | 0, _ => by kernel_rfl
 | 1, _ => by kernel_rfl
 | 2, _ => by kernel_rfl
 | 3, _ => by kernel_rfl
 | 4, _ => by kernel_rfl
 | 5, _ => by kernel_rfl
structure IEnv (w : World) (l0 : List Int) (A0 : Option Addr) (c0 n : Nat) (Bw Bo Br : Nat) : Prop where
 cw : w.cell? ⟨Bw, 0, none⟩ = some (.slice A0 l0.length c0)
 co : w.cell? ⟨Bo, 0, none⟩ = some (.slice (some ⟨Br, 0, none⟩) (n + 1) (n + 1))
 n1 : Bw ≠ Br
 n3 : Bo ≠ Br
 rd : Kd.F (Kd.int .i64) w (fun k => k ≠ Br) A0 l0.length l0
 lt : Br < w.heap.size
theorem IEnv.grows {w w' : World} {l0 : List Int} {A0 : Option Addr} {c0 n : Nat} {Bw Bo Br : Nat} (h : IEnv w l0 A0 c0 n Bw Bo Br) (hg : w.grownBy w' (some Br)) : IEnv w' l0 A0 c0 n Bw Bo Br :=
 ⟨hg.cell h.cw (fun e => h.n1 (Option.some.inj e)), hg.cell h.co (fun e => h.n3 (Option.some.inj e)), h.n1, h.n3,
  Kd.F_grown h.rd hg (fun k hk e => hk (Option.some.inj e)), Nat.lt_of_lt_of_le h.lt hg.size⟩
set_option maxHeartbeats 16000000 in
set_option maxRecDepth 100000 in
theorem interlace_1 (l0 Ls : List Int) (p : Int → Bool) (rs : List (List Int)) (kr nr r m n : Nat) (old : List Int) (A0 A : Option Addr) (c0 c Bw Bo Br : Nat) (w : World)
  (hE : IEnv w l0 A0 c0 n Bw Bo Br) (hc0 : l0.length ≤ c0) (hl : l0.length ≤ 12) (hL : Kd.F (Kd.int .i64) w (fun k => k ≠ Br) A Ls.length Ls) (hc : Ls.length ≤ c) (hok : okL (l0.filter p) = true)
  (hp : ∀ x, ∃ k, slices_Contains_int64_int64.f k Ls x = some (p x)) (hrows : impl_rows.f kr (nrm (l0.filter p)) = some rs) (hb : ∀ q ∈ rs, Bits q ∧ q.length = nr) (hrl : rs.length = nr) (hnr : nr ≤ 12) (hr : IsRank rs r)
  (hm : (Ls.length : Int) - (r : Int) = (m : Int)) (hm6 : m ≤ 6) (hmn : m ≤ n) (hn6 : n ≤ 6) (hol : old.length = n + 1) (hob : ∀ i, -1000000 ≤ old.getD i 0 + (powC m).getD i 0 ∧ old.getD i 0 + (powC m).getD i 0 ≤ 1000000)
  (hH : w.heap[Br]? = some (.cells (nums .i64 old).toArray 2 (0, 0))) :
  Calls Try.prog 145 #[.slice A Ls.length c, .pointer (some ⟨Bw, 0, none⟩), .pointer (some ⟨Bo, 0, none⟩)] w fun e w2 => e = .returned (.tuple #[]) ∧ w.grownBy w2 (some Br) ∧ w2.heap[Br]? = some (.cells (nums .i64 (addTo old (powC m) (m + 1))).toArray 2 (0, 0)) := by
 obtain ⟨wa, hwa⟩ : ∃ wa, w.alloc (.cells #[.slice A Ls.length c] 24) = wa := ⟨_, rfl⟩
 have hba : Below w.heap.size w wa := by rw [← hwa]; exact below_alloc (Below.refl _ _) _
 have hnew : wa.cell? ⟨w.heap.size, 0, none⟩ = some (.slice A Ls.length c) := by
  rw [← hwa]
  have : (w.alloc (.cells #[.slice A Ls.length c] 24)).heap[w.heap.size]? = some (.cells #[.slice A Ls.length c] 24 (0, 0)) := new_at rfl
  simp only [World.cell?, this]
  rfl
 have hsa : w.heap.size < wa.heap.size := World.block_lt_of_cell? wa _ hnew
 have hword := wordOf_walk l0 Ls p A0 A c0 c w.heap.size wa hok (by omega) (Kd.C_below (Kd.F_now hE.rd) hba) hc0 hp hnew (Kd.C_below (Kd.F_now hL) hba) hc
 have hcw : wa.cell? ⟨Bw, 0, none⟩ = some (.slice A0 l0.length c0) := by
  have := hba.block Bw (World.block_lt_of_cell? w _ hE.cw)
  simpa [World.cell?, this] using hE.cw
 have HWORD := Aside0.mk hword
 have HE := Aside0.mk hE
 have HNEW := Aside0.mk hnew
 have HBA := Aside0.mk hba
 have HSA := Aside0.mk hsa
 have HRANK := Aside0.mk (fun (A : Option Addr) (c : Nat) (W : World) (h1 : Kd.C (Kd.int .i64) W A (nrm (l0.filter p)).length (nrm (l0.filter p))) (h2 : (nrm (l0.filter p)).length ≤ c) => rank_walk kr (nrm (l0.filter p)) rs nr r A c W h1 h2 hrows hb hrl hnr hr)
 have HM := Aside0.mk hm
 have HM6 := Aside0.mk hm6
 have HMN := Aside0.mk hmn
 have HN6 := Aside0.mk hn6
 have HOL := Aside0.mk hol
 have HOB := Aside0.mk hob
 have HH := Aside0.mk hH
 obtain ⟨inner, hinner⟩ : ∃ inner, nrm (l0.filter p) = inner := ⟨_, rfl⟩
 rw [hinner] at HWORD HRANK
 clear hword hE hnew hba hsa hc0 hl hL hc hok hp hrows hb hrl hnr hr hm hm6 hmn hn6 hol hob hH hinner
 go_enter Try.func145, Try.ntmps145
 go_wp2_with (first
  | (go_at_call 146; (try rw [hwa]); refine HWORD.out.mono ?_; rintro e w2 ⟨v2, rfl, hR2, hB2⟩; have HR2 := Aside0.mk hR2; have HB2 := Aside0.mk hB2; clear hR2 hB2)
  | ((with_reducible refine gate_dst (N := 11) rfl ?_); refine Kd.R_lit (Kd.int .i64) (w0 := w) w.heap.size 2 ?hg (N := 11) ?hd (xs := ([1] : List Int)) (inner := [.int .i64 1]) (ok := fun _ => True) (okp := fun _ => False) ?hr ?hp (fun _ hk => hk.elim) trivial (below_step HBA.out HB2.out) (below_step HBA.out HB2.out).size (by simp) ?_; (case hd => rfl); (case hg => rfl); (case hr => first | (go_simp; done) | (go_simp; rfl)); (case hp => exact ((Reps.none _ _).snoc (p := (1 : Int)) rfl rfl)); intro v3 w3 ho hb hg_ hnew_; have HR3 := Aside0.mk ho; have HB3 := Aside0.mk hb; have HG3 := Aside0.mk hg_; clear ho hb hg_ hnew_))
 obtain ⟨A2, c2, rfl⟩ := Kd.R_slice HR2.out
 have HCAP := Aside0.mk (Kd.R_reads' HR2.out).2.1
 have HC3 := Aside0.mk (Kd.F_now (Kd.F_grown (Kd.R_F HR2.out) HG3.out (fun _ _ e => by cases e)))
 have hq3 : w3.cell? ⟨w.heap.size, 0, none⟩ = some (.slice A Ls.length c) := by
  have h1 := HG3.out.block w.heap.size (Nat.lt_of_lt_of_le HSA.out HB2.out.size) (by simp)
  have h2 := HB2.out.block w.heap.size HSA.out
  have h3 := HNEW.out
  simpa [World.cell?, h1, h2] using h3
 have HQ := Aside0.mk (show ∀ W W' : World, W.heap = w3.heap → Below W.heap.size W W' → W'.cell? ⟨w.heap.size, 0, none⟩ = some (.slice A Ls.length c) from fun W W' hW hb => by
  have h1 := hb.block w.heap.size (by rw [hW]; exact World.block_lt_of_cell? w3 _ hq3)
  rw [hW] at h1
  simpa [World.cell?, h1] using hq3)
 have hsub : wrap64 ((Ls.length : Int) - (r : Int)) = (m : Int) := by rw [HM.out]; have := HM6.out; unfold wrap64; omega
 have HSUB := Aside0.mk hsub
 clear hsub
 go_region_law (first
  | (refine goes_ Try.func148 (by kernel_rfl) rfl #[.slice A2 inner.length c2] (by rfl) rfl rfl (by simp [Act.eval, Act.put]) ?_; refine (HRANK.out A2 c2 _ ?s1 HCAP.out).mono ?_; (case s1 => exact Kd.C_drew HC3.out); rintro e w4 ⟨rfl, hB4⟩; refine ⟨_, rfl, ?_⟩; have q4 := HQ.out w3.drew w4 rfl hB4; have HB4 := Aside0.mk (show Below w.heap.size w w4 from below_step (below_drew1 HB3.out) hB4); have HR4 := Aside0.mk (show Kd.R (Kd.int .i64) 2 w4 w.heap.size (fun _ => True) v3 [1] from Kd.R_below (Kd.R_drew HR3.out) hB4); clear hB4))
 all_goals
  go_wp2
  simp only [Act.put, List.getElem_toArray, List.getElem_cons_zero, List.getElem_cons_succ, List.setIfInBounds_toArray, List.set_cons_zero, List.set_cons_succ, i64_w, HSUB.out]
  go_loopw [17, 5] (fun i f wr => ∃ j : Nat, i = .int .i64 (j : Int) ∧ Aside0 (j ≤ m) ∧ Aside0 (Below w.heap.size w wr) ∧ Aside0 (Kd.R (Kd.int .i64) 2 wr w.heap.size (fun _ => True) f (powC j)))
   (fun i _ _ => m - (intOf i).toNat)
  case atStart => exact ⟨0, rfl, ⟨Nat.zero_le _⟩, HB4, HR4⟩
  case round =>
   obtain ⟨j, rfl, HJ, HBJ, HRJ⟩ := hrel
   obtain ⟨A5, c5, rfl⟩ := Kd.R_slice HRJ.out
   by_cases hj : j < m
   ·have t1 : decide ((j : Int) < (m : Int)) = true := decide_eq_true (by omega)
    have t2 : decide (j < m) = true := decide_eq_true hj
    have hrd := Kd.R_reads' HRJ.out
    have HT := Aside0.mk (impl_times.calls 10 A5 c5 (powC j) 1 (powC (j + 1)) wr hrd.2.2 hrd.2.1 (times_powC j (by have := HM6.out; omega)))
    clear hrd
    go_wp2_with (first | (go_at_call 149; refine HT.out.mono ?_; rintro e w5 ⟨v5, rfl, hR5, hB5⟩; have HR5 := Aside0.mk (Kd.R_lower hR5 HBJ.out.size); have HB5 := Aside0.mk (below_step HBJ.out hB5); clear hR5 hB5))
    go_roundw
    case rel => exact ⟨j + 1, congrArg _ (wS (by have := HM6.out; omega)), ⟨hj⟩, HB5, HR5⟩
    case measure => rw [wS (by have := HM6.out; omega)]; simp [intOf]; omega
   ·have t1 : decide ((j : Int) < (m : Int)) = false := decide_eq_false (by omega)
    have t2 : decide (j < m) = false := decide_eq_false hj
    have hjm : j = m := by have := HJ.out; omega
    rw [hjm] at HRJ ⊢
    have hlenP : (powC m).length = m + 1 := powC_len m
    have HF5 := Aside0.mk (Kd.R_F (Kd.R_mono (ok' := fun k => k ≠ Br) (Kd.R_bound HRJ.out) (fun k hk => by have := hk.2.1; have := HE.out.lt; omega)))
    rw [hlenP] at HF5 ⊢
    obtain ⟨wo, hwo⟩ : ∃ wo, wo = wr := ⟨wr, rfl⟩
    subst hwo
    go_wp2_with fail
    go_loopw [24] (fun i wq => ∃ x : Nat, i = .int .i64 (x : Int) ∧ Aside0 (x ≤ m + 1) ∧ Aside0 (w.grownBy wq (some Br)) ∧ Aside0 (wq.heap[Br]? = some (.cells (nums .i64 (addTo old (powC m) x)).toArray 2 (0, 0))) ∧ Aside0 (Kd.F (Kd.int .i64) wq (fun k => k ≠ Br) A5 (m + 1) (powC m)))
     (fun i _ => m + 1 - (intOf i).toNat)
    case atStart => exact ⟨0, rfl, ⟨Nat.zero_le _⟩, ⟨gb_of_below HBJ.out _⟩, ⟨by rw [addTo_zero]; exact (HBJ.out.block Br HE.out.lt).trans HH.out⟩, HF5⟩
    case round =>
     obtain ⟨x, rfl, HX, HGX, HHX, HFX⟩ := hrel
     by_cases hx : x < m + 1
     ·have r1 : decide ((x : Int) < ((m + 1 : Nat) : Int)) = true := decide_eq_true (by omega)
      have r2 : decide (x < m + 1) = true := decide_eq_true hx
      have r3 : decide ((x : Int) < (m : Int) + 1) = true := decide_eq_true (by omega)
      have hxn : x < n + 1 := by have := HMN.out; omega
      have r4 : decide ((x : Int) < ((n + 1 : Nat) : Int)) = true := decide_eq_true (by omega)
      have r5 : decide (x < n + 1) = true := decide_eq_true hxn
      have r6 : decide ((x : Int) < (n : Int) + 1) = true := decide_eq_true (by omega)
      obtain ⟨af, eaf, hcf⟩ := cell_of_C (Kd.F_now HFX.out) x hx
      subst eaf
      have hco := (HE.out.grows HGX.out).co
      have hlen2 : (addTo old (powC m) x).length = n + 1 := by rw [addTo_len, HOL.out]
      have hci : wr.cell? ⟨Br, x, none⟩ = some (.int .i64 (old.getD x 0)) := by
       rw [← addTo_at old (powC m) x (by rw [HOL.out]; exact hxn)]
       have := nums_get (addTo old (powC m) x) x (by rw [hlen2]; exact hxn)
       simpa [World.cell?, HHX.out] using this
      have hfi : wr.frozen? ⟨Br, x, none⟩ = false := by simp [World.frozen?, HHX.out]
      obtain ⟨y, hy⟩ : ∃ y, (powC m).getD x 0 = y := ⟨_, rfl⟩
      obtain ⟨z, hz⟩ : ∃ z, old.getD x 0 = z := ⟨_, rfl⟩
      have hsum : wrap64 (z + y) = z + y := by have := HOB.out x; rw [hy, hz] at this; unfold wrap64; omega
      have hset := addTo_succ old (powC m) x (by rw [HOL.out]; exact hxn)
      rw [hy] at hcf hset
      rw [hz] at hci hset
      have HSUM := Aside0.mk hsum
      have HSET := Aside0.mk hset
      clear hy hz hsum hset hlen2
      go_wp2_with fail
      go_roundw
      case rel => exact ⟨x + 1, congrArg _ (wS (by have := HM6.out; omega)), ⟨hx⟩, ⟨grown_set HGX.out x _⟩, ⟨by rw [blk_set HHX.out x _, HSUM.out, nums_set, HSET.out]⟩, ⟨Kd.F_far HFX.out (fun k hk => hk) _⟩⟩
      case measure => rw [wS (by have := HM6.out; omega)]; simp [intOf]; omega
     ·have r1 : decide ((x : Int) < ((m + 1 : Nat) : Int)) = false := decide_eq_false (by omega)
      have r2 : decide (x < m + 1) = false := decide_eq_false hx
      have r3 : decide ((x : Int) < (m : Int) + 1) = false := decide_eq_false (by omega)
      have HXE := Aside0.mk (show x = m + 1 from by have := HX.out; omega)
      go_wp2_with fail
      go_end0
      exact ⟨rfl, HGX.out, by rw [← HXE.out]; exact HHX.out⟩
def impl_interlace.f (l0 : List Int) : Option (List Int) := if isW l0 = true then some (interlaceV l0) else none
set_option maxHeartbeats 8000000 in
set_option maxRecDepth 100000 in
theorem impl_interlace.calls (A0 : Option Addr) (c0 : Nat) (l0 : List Int) (r : List Int) (w : World) (hr0 : Kd.C (Kd.int .i64) w A0 l0.length l0) (hc0 : l0.length ≤ c0) (h : impl_interlace.f l0 = some r) :
  Calls Try.prog 82 #[.slice A0 l0.length c0] w fun e w' => ∃ v0_ : Value, e = .returned v0_ ∧ Kd.R (Kd.int .i64) 2 w' w.heap.size (fun _ => True) v0_ r ∧ Below w.heap.size w w' := by
 have hf : isW l0 = true ∧ r = interlaceV l0 := by
  unfold impl_interlace.f at h
  by_cases hk : isW l0 = true
  rotate_left
  ·rw [if_neg hk] at h; exact absurd h (by simp)
  rw [if_pos hk] at h; exact ⟨hk, (Option.some.inj h).symm⟩
 have hw := (isW_iff l0).1 hf.1
 have hle := hw.le
 have HW := Aside0.mk hw
 have HRR := Aside0.mk hf.2
 obtain ⟨n, hn⟩ : ∃ n, n = l0.length / 2 := ⟨_, rfl⟩
 have hch : impl_chords.f l0 = some (n : Int) := by rw [hn]; exact chords_f l0 hle
 have CH := Aside0.mk hch
 have HN := Aside0.mk hn
 have hn6 : n ≤ 6 := by omega
 have hmk := make_ints (P := Try.prog) Try.underlying24 info2 ((n : Int) + 1) (n + 1) (by omega) (by omega)
 have HR := Aside0.mk hr0
 have HC := Aside0.mk hc0
 have HLE := Aside0.mk hle
 clear hr0 hc0 h hf hw hle hch hn
 have hmf : ∀ (fn : Fn) (first cap : Array Value) (w : World), (Instr.makeFunc fn first cap).run Try.prog w = .ok (.func fn first cap) w := fun _ _ _ _ => rfl
 go_enter Try.func82, Try.ntmps82
 go_wp2_with (first | (go_at_call 128; refine (impl_chords.calls A0 c0 l0 _ _ (by repeat (first | exact HR.out | refine Kd.C_alloc ?_ _ | refine Kd.C_drewN ?_ _)) HC.out CH.out).mono ?_; rintro e w' ⟨rfl, ⟨nd, rfl⟩⟩))
 obtain ⟨w0, hw0⟩ : ∃ w0, w0 = ((((w.alloc (.cells #[.slice A0 l0.length c0] 24 (0, 0))).drewN nd).alloc (.cells (nums .i64 (List.replicate (n + 1) 0)).toArray 2 (0, 0))).alloc (.cells #[.slice (some ⟨w.heap.size + 1, 0, none⟩) (n + 1) (n + 1)] 24 (0, 0))) := ⟨_, rfl⟩
 have hE : IEnv w0 l0 A0 c0 n w.heap.size (w.heap.size + 1 + 1) (w.heap.size + 1) := by
  rw [hw0]
  exact ⟨cell1 (by repeat (first | exact new_at (by simp) | refine blk_alloc ?_ _ | refine blk_drewN ?_ _)), cell1 (by repeat (first | exact new_at (by simp) | refine blk_alloc ?_ _ | refine blk_drewN ?_ _)), by omega, by omega, by repeat (first | exact Kd.F_mono (F_of_C HR.out) (fun k hk => by omega) | refine Kd.F_alloc ?_ _ | refine Kd.F_drewN ?_ _), by simp⟩
 have hV : w0.heap[w.heap.size + 1]? = some (.cells (nums .i64 (polyTo l0 n 0)).toArray 2 (0, 0)) := by
  rw [hw0]
  repeat (first | exact new_at (by simp) | refine blk_alloc ?_ _ | refine blk_drewN ?_ _)
 have hB0 : Below w.heap.size w w0 := by
  rw [hw0]
  repeat (first | exact Below.refl _ _ | apply below_alloc | apply pw_below_drewN)
 rw [← hw0]
 have HE := Aside0.mk hE
 have HV := Aside0.mk hV
 have HB0 := Aside0.mk hB0
 clear hw0 hE hV hB0 hmk
 refine (sets_interlace l0 A0 c0 n (2 ^ n) HN.out HLE.out rfl HC.out w.heap.size (w.heap.size + 1 + 1) (w.heap.size + 1) (polyTo l0 n) w0 HE.out.rd HE.out.lt (fun s A c w1 hs hg hh hF hc => ?_) HV.out).mono ?_
 ·obtain ⟨hiw, hil⟩ := inner_ok HW.out HN.out s
  obtain ⟨hco, hcn, _⟩ := co_ok HW.out HN.out s
  obtain ⟨kr, hkr⟩ := Ev.rounds (irows_ev _ hiw)
  have hok : okL (l0.filter (inSet s n)) = true := okL_of (by have := List.length_filter_le (inSet s n) l0; have := HLE.out; omega) (fun x hx => by
   obtain ⟨i, hi, rfl⟩ := (HW.out.mem x).1 (List.mem_filter.1 hx).1
   have := HLE.out
   have : i = 0 ∨ i = 1 ∨ i = 2 ∨ i = 3 ∨ i = 4 ∨ i = 5 := by omega
   rcases this with rfl | rfl | rfl | rfl | rfl | rfl <;> rfl)
  have hs64 : s < 64 := Nat.lt_of_lt_of_le hs (Nat.le_trans (Nat.pow_le_pow_right (by decide) hn6) (by decide))
  exact interlace_1 l0 (ints (setTo s n)) (inSet s n) (rowsOf (innerOf l0 s n)) kr ((innerOf l0 s n).length / 2) (rkC (rowsOf (innerOf l0 s n))) (coOf l0 s n) n (polyTo l0 n s) A0 A c0 c _ _ _ w1 (HE.out.grows hg) HC.out HLE.out hF hc hok
   (fun x => by
    obtain ⟨k, hk⟩ := Ev.rounds (contains_ev (ints (setTo s n)) x (by rw [ints_len]; have := setTo_le s n; omega))
    exact ⟨k, hk⟩)
   hkr (rows_bits _) (rows_length _) (by have := hiw.le; omega) (rkC_rank (rows_bits _) (by have := hiw.le; omega)).1 hco (by omega) hcn hn6 (polyTo_len _ _ _)
   (fun i => by
    have h1 := polyTo_small l0 n (fun s => by have := (co_ok HW.out HN.out s).2.1; omega) s i
    have h2 := powC_small (coOf l0 s n) (by omega) i
    omega) hh
 rintro e w2 ⟨rfl, hg, hr⟩
 have hE2 := HE.out.grows hg
 have h2 := hE2.co
 have HG := Aside0.mk hg
 have HH := Aside0.mk hr
 clear hg hr hE2
 go_wp2
 go_ret
 refine ⟨_, rfl, ?_, Go.Proofs.Ytcnekpdoldljgaa.Mem.below_grown HB0.out HG.out (by omega)⟩
 have h3 := HH.out
 rw [HRR.out, interlaceV, ← HN.out]
 exact R_of_block h3 (by rw [polyTo_len]) (by unfold maxLen; omega) (by omega)
end Go.Proofs.Ytcnekpdoldljgaa.F
end
section
namespace Go.Proofs.Ytcnekpdoldljgaa.F
open Go.RowKit Go.Proofs.YtcnekpdoldljgaaW.PrintWords Go.Proofs.YtcnekpdoldljgaaW.PrintLast Go.Proofs.YtcnekpdoldljgaaW.PrintMore
attribute [local go_sem] max2_int min2_int max_two min_two max_three min_three max_four min_four   
set_option linter.unusedVariables false
set_option linter.unusedSimpArgs false
def impl_InterlacePolynomial.f (k : Nat) (l0 : List Int) : Option (List Int × Int) := (impl_IsWord.f k l0).bind fun t => (if t = true then ((impl_interlace.f l0).bind fun t2 => (some (t2, 0))) else (some ([], 1)))
theorem impl_InterlacePolynomial.mono : ∀ a0 k, LeO (impl_InterlacePolynomial.f k a0) (impl_InterlacePolynomial.f (k + 1) a0) := fun _ _ => LeO.bind (impl_IsWord.mono _ _) (fun _ => LeO.ite (LeO.bind (LeO.refl _) fun _ => LeO.refl _) (LeO.refl _))
set_option maxHeartbeats 8000000 in
set_option maxRecDepth 100000 in
theorem changedWord_InterlacePolynomial.calls (k : Nat) (A0 : Option Addr) (c0 : Nat) (l0 : List Int) (r1 : List Int) (r2 : Int) (w : World) (hr0 : Kd.C (Kd.int .i64) w A0 l0.length l0) (hc0 : l0.length ≤ c0) (h : impl_InterlacePolynomial.f k l0 = some (r1, r2)) :
    Calls Try.prog 66 #[.slice A0 l0.length c0, .func (.func 82) #[] #[]] w fun e w' => ∃ v0_ : Value, e = .returned (.tuple #[v0_, .int .i64 r2]) ∧ Kd.R (Kd.int .i64) 2 w' w.heap.size (fun _ => True) v0_ r1 ∧ Below w.heap.size w w' := by
  have HR := Aside0.mk hr0
  have HC := Aside0.mk hc0
  clear hr0 hc0
  unfold impl_InterlacePolynomial.f at h
  obtain ⟨t, ht, h⟩ := Option.bind_eq_some_iff.1 h
  have HT := Aside0.mk ht
  clear ht
  cases t with
  | true =>
    rw [if_pos rfl] at h
    obtain ⟨t2, ht2, h⟩ := Option.bind_eq_some_iff.1 h
    have HG := Aside0.mk ht2
    simp only [Option.some.injEq, Prod.mk.injEq] at h
    obtain ⟨rfl, rfl⟩ := h
    clear ht2
    go_enter Try.func66, Try.ntmps66
    go_wp2_with (first
      | (go_at_call 59; refine (impl_IsWord.calls k A0 c0 l0 true _ HR.out HC.out HT.out).mono ?_; rintro e w1 ⟨rfl, hb1⟩; have HB1 := Aside0.mk hb1; clear hb1)
      | (go_at_call 82; refine (impl_interlace.calls A0 c0 l0 t2 _ (Kd.C_below HR.out HB1.out) HC.out HG.out).mono ?_; rintro e w2 ⟨v0, rfl, ho2, hb2⟩; have HO2 := Aside0.mk ho2; have HB2 := Aside0.mk hb2; clear ho2 hb2))
    go_ret2
    exact ⟨_, rfl, Kd.R_lower HO2.out (below_size HB1.out), below_step HB1.out HB2.out⟩
  | false =>
    rw [if_neg (by simp)] at h
    simp only [Option.some.injEq, Prod.mk.injEq] at h
    obtain ⟨rfl, rfl⟩ := h
    go_enter Try.func66, Try.ntmps66
    go_wp2_with (first
      | (go_at_call 59; refine (impl_IsWord.calls k A0 c0 l0 false _ HR.out HC.out HT.out).mono ?_; rintro e w1 ⟨rfl, hb1⟩; have HB1 := Aside0.mk hb1; clear hb1))
    go_ret2
    exact ⟨_, rfl, Kd.R_nil _ _ _ _ _, HB1.out⟩
set_option maxHeartbeats 8000000 in
set_option maxRecDepth 100000 in
theorem impl_InterlacePolynomial.calls (k : Nat) (A0 : Option Addr) (c0 : Nat) (l0 : List Int) (r1 : List Int) (r2 : Int) (w : World) (hr0 : Kd.C (Kd.int .i64) w A0 l0.length l0) (hc0 : l0.length ≤ c0) (h : impl_InterlacePolynomial.f k l0 = some (r1, r2)) :
    Calls Try.prog 36 #[.slice A0 l0.length c0] w fun e w' => ∃ v0_ : Value, e = .returned (.tuple #[v0_, .int .i64 r2]) ∧ Kd.R (Kd.int .i64) 2 w' w.heap.size (fun _ => True) v0_ r1 ∧ Below w.heap.size w w' := by
  have HR := Aside0.mk hr0
  have HC := Aside0.mk hc0
  have HF := Aside0.mk h
  clear hr0 hc0 h
  go_enter Try.func36, Try.ntmps36
  go_wp2_with (first
    | (go_at_call 66; refine (changedWord_InterlacePolynomial.calls k A0 c0 l0 r1 r2 _ HR.out HC.out HF.out).mono ?_; rintro e w2 ⟨v0, rfl, ho2, hb2⟩; have HO2 := Aside0.mk ho2; have HB2 := Aside0.mk hb2; clear ho2 hb2))
  go_ret2
  exact ⟨_, rfl, HO2.out, HB2.out⟩
end Go.Proofs.Ytcnekpdoldljgaa.F
end
section
namespace Go.Proofs.Ytcnekpdoldljgaa.F
open Go.RowKit Go.Proofs.YtcnekpdoldljgaaW.PrintWords Go.Proofs.YtcnekpdoldljgaaW.PrintLast Go.Proofs.YtcnekpdoldljgaaW.PrintMore
attribute [local go_sem] max2_int min2_int max_two min_two max_three min_three max_four min_four   
set_option linter.unusedVariables false
set_option linter.unusedSimpArgs false
mutual
def laws_FnExactInterlacePolynomial.j0 : Nat → List Int → List Int → Int → List Int → List Int → Int → Bool → Option (Bool)
 | 0, _, _, _, _, _, _, _ => none
 | k + 1, x0, x3, x4, x5, x6, x7, x37 => if x37 = true then (some false) else ((laws_toInt64S.f k x0).bind fun t41016 => ((laws_eqInt64S.f k x5 t41016).bind fun t41019 => (if t41019 = true then ((laws_markInt64S.f k x5 1).bind fun bt41020 => (if bt41020.1 < 0 then (laws_FnExactInterlacePolynomial.j1 k x0 x3 x4 x6 true) else ((laws_eqInt64S.f k x6 x3).bind fun t41022 => (if t41022 = true then (laws_FnExactInterlacePolynomial.j1 k x0 x3 x4 x6 (x7 != x4)) else (laws_FnExactInterlacePolynomial.j1 k x0 x3 x4 x6 true))))) else (some false))))
def laws_FnExactInterlacePolynomial.j1 : Nat → List Int → List Int → Int → List Int → Bool → Option (Bool)
 | 0, _, _, _, _, _ => none
 | k + 1, x0, x3, x4, x6, x58 => if x58 = true then (some false) else ((laws_markInt64S.f k x6 1).bind fun bt41023 => ((laws_heldInt64S.f k bt41023.2 1).bind fun t41025 => (if t41025 < 0 then (some false) else (if t41025 = bt41023.1 then ((laws_toInt64S.f k x0).bind fun t41026 => ((impl_InterlacePolynomial.f k t41026).bind fun bt41029 => ((laws_eqInt64S.f k bt41029.1 x3).bind fun t41033 => (if t41033 = true then (laws_FnExactInterlacePolynomial.j2 k bt41023.2 bt41023.1 (bt41029.2 != x4)) else (laws_FnExactInterlacePolynomial.j2 k bt41023.2 bt41023.1 true))))) else (some false)))))
def laws_FnExactInterlacePolynomial.j2 : Nat → List Int → Int → Bool → Option (Bool)
 | 0, _, _, _ => none
 | k + 1, x6, x9, x84 => if x84 = true then (some false) else ((laws_heldInt64S.f k x6 1).bind fun t41034 => (if t41034 < 0 then (some false) else (if t41034 = x9 then (some true) else (some false))))
end
def laws_FnExactInterlacePolynomial.f (k : Nat) (l0 : List Int) : Option (Bool) := if (l0.length : Int) > 1048576 then (some true) else ((laws_toInt64S.f k l0).bind fun t41001 => ((spec_InterlacePolynomial.f k t41001).bind fun bt41004 => ((laws_toInt64S.f k l0).bind fun t41008 => ((impl_InterlacePolynomial.f k t41008).bind fun bt41011 => ((laws_eqInt64S.f k bt41011.1 bt41004.1).bind fun t41015 => (if t41015 = true then (laws_FnExactInterlacePolynomial.j0 k l0 bt41004.1 bt41004.2 t41008 bt41011.1 bt41011.2 (bt41011.2 != bt41004.2)) else (laws_FnExactInterlacePolynomial.j0 k l0 bt41004.1 bt41004.2 t41008 bt41011.1 bt41011.2 true)))))))
theorem laws_FnExactInterlacePolynomial.mono_l : ∀ k, (∀ y0 y1 y2 y3 y4 y5 y6, LeO (laws_FnExactInterlacePolynomial.j0 k y0 y1 y2 y3 y4 y5 y6) (laws_FnExactInterlacePolynomial.j0 (k + 1) y0 y1 y2 y3 y4 y5 y6)) ∧ (∀ y0 y1 y2 y3 y4, LeO (laws_FnExactInterlacePolynomial.j1 k y0 y1 y2 y3 y4) (laws_FnExactInterlacePolynomial.j1 (k + 1) y0 y1 y2 y3 y4)) ∧ (∀ y0 y1 y2, LeO (laws_FnExactInterlacePolynomial.j2 k y0 y1 y2) (laws_FnExactInterlacePolynomial.j2 (k + 1) y0 y1 y2))
 | 0 => ⟨fun _ _ _ _ _ _ _ r h => by simp [laws_FnExactInterlacePolynomial.j0] at h, fun _ _ _ _ _ r h => by simp [laws_FnExactInterlacePolynomial.j1] at h, fun _ _ _ r h => by simp [laws_FnExactInterlacePolynomial.j2] at h⟩
 | k + 1 => by
  obtain ⟨ih0, ih1, ih2⟩ := laws_FnExactInterlacePolynomial.mono_l k
  refine ⟨?_, ?_, ?_⟩
  ·intro y0 y1 y2 y3 y4 y5 y6
   unfold laws_FnExactInterlacePolynomial.j0
   repeat' first
   | (with_reducible exact ih0 _ _ _ _ _ _ _)
   | (with_reducible exact ih1 _ _ _ _ _)
   | (with_reducible exact ih2 _ _ _)
   | (with_reducible exact impl_InterlacePolynomial.mono _ _)
   | (with_reducible exact laws_eqInt64S.mono _ _ _)
   | (with_reducible exact laws_heldInt64S.mono _ _ _)
   | (with_reducible exact laws_markInt64S.mono _ _ _)
   | (with_reducible exact laws_toInt64S.mono _ _)
   | (with_reducible exact spec_InterlacePolynomial.mono _ _)
   | (with_reducible exact LeO.refl _)
   | (with_reducible exact LeO.none _)
   | (with_reducible refine LeO.ite ?_ ?_)
   | (with_reducible refine LeO.bind ?_ (fun _ => ?_))
   | exact ih0 _ _ _ _ _ _ _
   | exact ih1 _ _ _ _ _
   | exact ih2 _ _ _
   | exact impl_InterlacePolynomial.mono _ _
   | exact laws_eqInt64S.mono _ _ _
   | exact laws_heldInt64S.mono _ _ _
   | exact laws_markInt64S.mono _ _ _
   | exact laws_toInt64S.mono _ _
   | exact spec_InterlacePolynomial.mono _ _
   | exact LeO.none _
   | refine LeO.ite ?_ ?_
   | refine LeO.bind ?_ (fun _ => ?_)
  ·intro y0 y1 y2 y3 y4
   unfold laws_FnExactInterlacePolynomial.j1
   repeat' first
   | (with_reducible exact ih0 _ _ _ _ _ _ _)
   | (with_reducible exact ih1 _ _ _ _ _)
   | (with_reducible exact ih2 _ _ _)
   | (with_reducible exact impl_InterlacePolynomial.mono _ _)
   | (with_reducible exact laws_eqInt64S.mono _ _ _)
   | (with_reducible exact laws_heldInt64S.mono _ _ _)
   | (with_reducible exact laws_markInt64S.mono _ _ _)
   | (with_reducible exact laws_toInt64S.mono _ _)
   | (with_reducible exact spec_InterlacePolynomial.mono _ _)
   | (with_reducible exact LeO.refl _)
   | (with_reducible exact LeO.none _)
   | (with_reducible refine LeO.ite ?_ ?_)
   | (with_reducible refine LeO.bind ?_ (fun _ => ?_))
   | exact ih0 _ _ _ _ _ _ _
   | exact ih1 _ _ _ _ _
   | exact ih2 _ _ _
   | exact impl_InterlacePolynomial.mono _ _
   | exact laws_eqInt64S.mono _ _ _
   | exact laws_heldInt64S.mono _ _ _
   | exact laws_markInt64S.mono _ _ _
   | exact laws_toInt64S.mono _ _
   | exact spec_InterlacePolynomial.mono _ _
   | exact LeO.none _
   | refine LeO.ite ?_ ?_
   | refine LeO.bind ?_ (fun _ => ?_)
  ·intro y0 y1 y2
   unfold laws_FnExactInterlacePolynomial.j2
   repeat' first
   | (with_reducible exact ih0 _ _ _ _ _ _ _)
   | (with_reducible exact ih1 _ _ _ _ _)
   | (with_reducible exact ih2 _ _ _)
   | (with_reducible exact impl_InterlacePolynomial.mono _ _)
   | (with_reducible exact laws_eqInt64S.mono _ _ _)
   | (with_reducible exact laws_heldInt64S.mono _ _ _)
   | (with_reducible exact laws_markInt64S.mono _ _ _)
   | (with_reducible exact laws_toInt64S.mono _ _)
   | (with_reducible exact spec_InterlacePolynomial.mono _ _)
   | (with_reducible exact LeO.refl _)
   | (with_reducible exact LeO.none _)
   | (with_reducible refine LeO.ite ?_ ?_)
   | (with_reducible refine LeO.bind ?_ (fun _ => ?_))
   | exact ih0 _ _ _ _ _ _ _
   | exact ih1 _ _ _ _ _
   | exact ih2 _ _ _
   | exact impl_InterlacePolynomial.mono _ _
   | exact laws_eqInt64S.mono _ _ _
   | exact laws_heldInt64S.mono _ _ _
   | exact laws_markInt64S.mono _ _ _
   | exact laws_toInt64S.mono _ _
   | exact spec_InterlacePolynomial.mono _ _
   | exact LeO.none _
   | refine LeO.ite ?_ ?_
   | refine LeO.bind ?_ (fun _ => ?_)
theorem laws_FnExactInterlacePolynomial.mono : ∀ a0 k, LeO (laws_FnExactInterlacePolynomial.f k a0) (laws_FnExactInterlacePolynomial.f (k + 1) a0) := by
 intro a0 k
 obtain ⟨ih0, ih1, ih2⟩ := laws_FnExactInterlacePolynomial.mono_l k
 unfold laws_FnExactInterlacePolynomial.f
 repeat' first
   | (with_reducible exact ih0 _ _ _ _ _ _ _)
   | (with_reducible exact ih1 _ _ _ _ _)
   | (with_reducible exact ih2 _ _ _)
   | (with_reducible exact impl_InterlacePolynomial.mono _ _)
   | (with_reducible exact laws_eqInt64S.mono _ _ _)
   | (with_reducible exact laws_heldInt64S.mono _ _ _)
   | (with_reducible exact laws_markInt64S.mono _ _ _)
   | (with_reducible exact laws_toInt64S.mono _ _)
   | (with_reducible exact spec_InterlacePolynomial.mono _ _)
   | (with_reducible exact LeO.refl _)
   | (with_reducible exact LeO.none _)
   | (with_reducible refine LeO.ite ?_ ?_)
   | (with_reducible refine LeO.bind ?_ (fun _ => ?_))
   | exact ih0 _ _ _ _ _ _ _
   | exact ih1 _ _ _ _ _
   | exact ih2 _ _ _
   | exact impl_InterlacePolynomial.mono _ _
   | exact laws_eqInt64S.mono _ _ _
   | exact laws_heldInt64S.mono _ _ _
   | exact laws_markInt64S.mono _ _ _
   | exact laws_toInt64S.mono _ _
   | exact spec_InterlacePolynomial.mono _ _
   | exact LeO.none _
   | refine LeO.ite ?_ ?_
   | refine LeO.bind ?_ (fun _ => ?_)
set_option maxHeartbeats 8000000 in
set_option maxRecDepth 100000 in
theorem laws_FnExactInterlacePolynomial.calls (k : Nat) (A0 : Option Addr) (c0 : Nat) (l0 : List Int) (r : Bool) (w : World) (hr0 : Kd.C (Kd.int .i64) w A0 l0.length l0) (hc0 : l0.length ≤ c0) (h : laws_FnExactInterlacePolynomial.f k l0 = some r) :
  Calls Try.prog 4 #[.slice A0 l0.length c0] w fun e w' => e = .returned (.bool r) ∧ Below w.heap.size w w' := by
 have HR0 := Aside0.mk hr0
 have HC0 := Aside0.mk hc0
 clear hr0 hc0
 have HB := Aside0.mk (Below.refl w.heap.size w)
 have H : (if (l0.length : Int) > 1048576 then (some true) else ((laws_toInt64S.f k l0).bind fun t41001 => ((spec_InterlacePolynomial.f k t41001).bind fun bt41004 => ((laws_toInt64S.f k l0).bind fun t41008 => ((impl_InterlacePolynomial.f k t41008).bind fun bt41011 => ((laws_eqInt64S.f k bt41011.1 bt41004.1).bind fun t41015 => (if t41015 = true then (laws_FnExactInterlacePolynomial.j0 k l0 bt41004.1 bt41004.2 t41008 bt41011.1 bt41011.2 (bt41011.2 != bt41004.2)) else (laws_FnExactInterlacePolynomial.j0 k l0 bt41004.1 bt41004.2 t41008 bt41011.1 bt41011.2 true)))))))) = some r := h
 clear h
 by_cases c2 : (l0.length : Int) > 1048576
 ·rw [if_pos c2] at H
  have c2b0 : decide (1048576 < (l0.length : Int)) = true := decide_eq_true c2
  have c2b1 : decide (1048576 < l0.length) = true := decide_eq_true (by omega)
  clear c2
  obtain rfl := Option.some.inj H
  go_enter Try.func4, Try.ntmps4
  go_wp2
  go_ret
  exact ⟨by first | rfl | (simp [errW_none, errW_some] <;> rfl) | (simp [*, errW_none, errW_some] <;> rfl), by repeat (first | (with_reducible first | exact HB.out | apply below_alloc | apply pw_below_drewN | apply below_drew1) | exact HB.out)⟩
 rw [if_neg c2] at H
 have c2b0 : decide (1048576 < (l0.length : Int)) = false := decide_eq_false c2
 have c2b1 : decide (1048576 < l0.length) = false := decide_eq_false (by omega)
 clear c2
 replace H := Option.bind_eq_some_iff.mp H
 obtain ⟨t41001, A30, H⟩ := H
 replace H : ((spec_InterlacePolynomial.f k t41001).bind fun bt41004 => ((laws_toInt64S.f k l0).bind fun t41008 => ((impl_InterlacePolynomial.f k t41008).bind fun bt41011 => ((laws_eqInt64S.f k bt41011.1 bt41004.1).bind fun t41015 => (if t41015 = true then (laws_FnExactInterlacePolynomial.j0 k l0 bt41004.1 bt41004.2 t41008 bt41011.1 bt41011.2 (bt41011.2 != bt41004.2)) else (laws_FnExactInterlacePolynomial.j0 k l0 bt41004.1 bt41004.2 t41008 bt41011.1 bt41011.2 true)))))) = some r := H
 have A3 := Aside0.mk A30
 clear A30
 replace H := Option.bind_eq_some_iff.mp H
 obtain ⟨⟨t41004, t41005⟩, A40, H⟩ := H
 replace H : ((laws_toInt64S.f k l0).bind fun t41008 => ((impl_InterlacePolynomial.f k t41008).bind fun bt41011 => ((laws_eqInt64S.f k bt41011.1 t41004).bind fun t41015 => (if t41015 = true then (laws_FnExactInterlacePolynomial.j0 k l0 t41004 t41005 t41008 bt41011.1 bt41011.2 (bt41011.2 != t41005)) else (laws_FnExactInterlacePolynomial.j0 k l0 t41004 t41005 t41008 bt41011.1 bt41011.2 true))))) = some r := H
 have A4 := Aside0.mk A40
 clear A40
 replace H := Option.bind_eq_some_iff.mp H
 obtain ⟨t41008, A50, H⟩ := H
 replace H : ((impl_InterlacePolynomial.f k t41008).bind fun bt41011 => ((laws_eqInt64S.f k bt41011.1 t41004).bind fun t41015 => (if t41015 = true then (laws_FnExactInterlacePolynomial.j0 k l0 t41004 t41005 t41008 bt41011.1 bt41011.2 (bt41011.2 != t41005)) else (laws_FnExactInterlacePolynomial.j0 k l0 t41004 t41005 t41008 bt41011.1 bt41011.2 true)))) = some r := H
 have A5 := Aside0.mk A50
 clear A50
 replace H := Option.bind_eq_some_iff.mp H
 obtain ⟨⟨t41011, t41012⟩, A60, H⟩ := H
 replace H : ((laws_eqInt64S.f k t41011 t41004).bind fun t41015 => (if t41015 = true then (laws_FnExactInterlacePolynomial.j0 k l0 t41004 t41005 t41008 t41011 t41012 (t41012 != t41005)) else (laws_FnExactInterlacePolynomial.j0 k l0 t41004 t41005 t41008 t41011 t41012 true))) = some r := H
 have A6 := Aside0.mk A60
 clear A60
 have HC7 := Aside0.mk H
 clear H
 go_enter Try.func4, Try.ntmps4
 go_upto_region 6 with (first | ((with_reducible refine gate_callee (f := 35) rfl ?_); refine goesL_ (some 18) rfl rfl Try.func35 (by kernel_rfl) rfl #[.slice A0 l0.length c0] rfl (by (try simp only [List.map_toArray, List.map_cons, List.map_nil]); first | done | rfl | (simp only [List.length_drop, List.length_take]; rfl)) ?_; (with_reducible refine (laws_toInt64S.calls k _ _ l0 t41001 _ ?side1 ?side2 A3.out).mono ?_); (case side1 => repeat (first | exact HR0.out | (with_reducible refine Kd.C_alloc ?_ _) | (with_reducible refine Kd.C_drewN ?_ _) | (with_reducible refine Kd.C_drew ?_))); (case side2 => exact HC0.out); rintro e w8 ⟨v41002, rfl, ho0, hb⟩; refine ⟨_, rfl, ?_⟩; have n0_ := Aside0.mk (Kd.R_lower ho0 (below_size (by repeat (first | (with_reducible first | exact HB.out | apply below_alloc | apply pw_below_drewN | apply below_drew1) | exact HB.out)))); have n1_ := Aside0.mk (below_step (by repeat (first | (with_reducible first | exact HB.out | apply below_alloc | apply pw_below_drewN | apply below_drew1) | exact HB.out)) hb); clear HB; have HO41003 := n0_; have HB := n1_; clear n0_ n1_; (try clear hb); (try clear hb2); (try clear hk); (try clear hi); (try clear ho0); obtain ⟨Ao9, co9, eo9⟩ := Kd.R_slice HO41003.out; subst eo9) | ((with_reducible refine gate_callee (f := 34) rfl ?_); refine goesL_ (some 19) rfl rfl Try.func34 (by kernel_rfl) rfl #[.slice Ao9 t41001.length co9] rfl (by (try simp only [List.map_toArray, List.map_cons, List.map_nil]); first | done | rfl | (simp only [List.length_drop, List.length_take]; rfl)) ?_; (with_reducible refine (spec_InterlacePolynomial.calls k _ _ t41001 t41004 t41005 _ ?side1 ?side2 A4.out).mono ?_); (case side1 => repeat (first | exact (Kd.R_reads' HO41003.out).2.2 | (with_reducible refine Kd.C_alloc ?_ _) | (with_reducible refine Kd.C_drewN ?_ _) | (with_reducible refine Kd.C_drew ?_))); (case side2 => exact (Kd.R_reads' HO41003.out).2.1); rintro e w10 ⟨v41006, rfl, ho0, hb⟩; refine ⟨_, rfl, ?_⟩; have n0_ := Aside0.mk (Kd.R_elder' (by (with_reducible repeat (first | apply Kd.R_alloc | apply Kd.R_drewN | apply Kd.R_drew)); exact HO41003.out) (Kd.R_base ho0) hb); have n1_ := Aside0.mk (Kd.R_lower (Kd.R_new' ho0 (Kd.R_lt (by (with_reducible repeat (first | apply Kd.R_alloc | apply Kd.R_drewN | apply Kd.R_drew)); exact HO41003.out))) (below_size (by repeat (first | (with_reducible first | exact HB.out | apply below_alloc | apply pw_below_drewN | apply below_drew1) | exact HB.out)))); have n2_ := Aside0.mk (below_step (by repeat (first | (with_reducible first | exact HB.out | apply below_alloc | apply pw_below_drewN | apply below_drew1) | exact HB.out)) hb); clear HO41003; clear HB; have HO41003 := n0_; have HO41007 := n1_; have HB := n2_; clear n0_ n1_ n2_; (try clear hb); (try clear hb2); (try clear hk); (try clear hi); (try clear ho0)) | ((with_reducible refine gate_callee (f := 35) rfl ?_); refine goesL_ (some 23) rfl rfl Try.func35 (by kernel_rfl) rfl #[.slice A0 l0.length c0] rfl (by (try simp only [List.map_toArray, List.map_cons, List.map_nil]); first | done | rfl | (simp only [List.length_drop, List.length_take]; rfl)) ?_; (with_reducible refine (laws_toInt64S.calls k _ _ l0 t41008 _ ?side1 ?side2 A5.out).mono ?_); (case side1 => repeat (first | exact (Kd.C_below HR0.out HB.out) | (with_reducible refine Kd.C_alloc ?_ _) | (with_reducible refine Kd.C_drewN ?_ _) | (with_reducible refine Kd.C_drew ?_))); (case side2 => exact HC0.out); rintro e w11 ⟨v41009, rfl, ho0, hb⟩; refine ⟨_, rfl, ?_⟩; have n0_ := Aside0.mk (Kd.R_elder' (by (with_reducible repeat (first | apply Kd.R_alloc | apply Kd.R_drewN | apply Kd.R_drew)); exact HO41003.out) (Kd.R_base ho0) hb); have n1_ := Aside0.mk (Kd.R_elder' (by (with_reducible repeat (first | apply Kd.R_alloc | apply Kd.R_drewN | apply Kd.R_drew)); exact HO41007.out) (Kd.R_base ho0) hb); have n2_ := Aside0.mk (Kd.R_lower (Kd.R_new' (Kd.R_new' ho0 (Kd.R_lt (by (with_reducible repeat (first | apply Kd.R_alloc | apply Kd.R_drewN | apply Kd.R_drew)); exact HO41003.out))) (Kd.R_lt (by (with_reducible repeat (first | apply Kd.R_alloc | apply Kd.R_drewN | apply Kd.R_drew)); exact HO41007.out))) (below_size (by repeat (first | (with_reducible first | exact HB.out | apply below_alloc | apply pw_below_drewN | apply below_drew1) | exact HB.out)))); have n3_ := Aside0.mk (below_step (by repeat (first | (with_reducible first | exact HB.out | apply below_alloc | apply pw_below_drewN | apply below_drew1) | exact HB.out)) hb); clear HO41003; clear HO41007; clear HB; have HO41003 := n0_; have HO41007 := n1_; have HO41010 := n2_; have HB := n3_; clear n0_ n1_ n2_ n3_; (try clear hb); (try clear hb2); (try clear hk); (try clear hi); (try clear ho0); obtain ⟨Ao12, co12, eo12⟩ := Kd.R_slice HO41010.out; subst eo12) | ((with_reducible refine gate_callee (f := 36) rfl ?_); refine goesL_ (some 26) rfl rfl Try.func36 (by kernel_rfl) rfl #[.slice Ao12 t41008.length co12] rfl (by (try simp only [List.map_toArray, List.map_cons, List.map_nil]); first | done | rfl | (simp only [List.length_drop, List.length_take]; rfl)) ?_; (with_reducible refine (impl_InterlacePolynomial.calls k _ _ t41008 t41011 t41012 _ ?side1 ?side2 A6.out).mono ?_); (case side1 => repeat (first | exact (Kd.R_reads' HO41010.out).2.2 | (with_reducible refine Kd.C_alloc ?_ _) | (with_reducible refine Kd.C_drewN ?_ _) | (with_reducible refine Kd.C_drew ?_))); (case side2 => exact (Kd.R_reads' HO41010.out).2.1); rintro e w13 ⟨v41013, rfl, ho0, hb⟩; refine ⟨_, rfl, ?_⟩; have n0_ := Aside0.mk (Kd.R_elder' (by (with_reducible repeat (first | apply Kd.R_alloc | apply Kd.R_drewN | apply Kd.R_drew)); exact HO41003.out) (Kd.R_base ho0) hb); have n1_ := Aside0.mk (Kd.R_elder' (by (with_reducible repeat (first | apply Kd.R_alloc | apply Kd.R_drewN | apply Kd.R_drew)); exact HO41007.out) (Kd.R_base ho0) hb); have n2_ := Aside0.mk (Kd.R_elder' (by (with_reducible repeat (first | apply Kd.R_alloc | apply Kd.R_drewN | apply Kd.R_drew)); exact HO41010.out) (Kd.R_base ho0) hb); have n3_ := Aside0.mk (Kd.R_lower (Kd.R_new' (Kd.R_new' (Kd.R_new' ho0 (Kd.R_lt (by (with_reducible repeat (first | apply Kd.R_alloc | apply Kd.R_drewN | apply Kd.R_drew)); exact HO41003.out))) (Kd.R_lt (by (with_reducible repeat (first | apply Kd.R_alloc | apply Kd.R_drewN | apply Kd.R_drew)); exact HO41007.out))) (Kd.R_lt (by (with_reducible repeat (first | apply Kd.R_alloc | apply Kd.R_drewN | apply Kd.R_drew)); exact HO41010.out))) (below_size (by repeat (first | (with_reducible first | exact HB.out | apply below_alloc | apply pw_below_drewN | apply below_drew1) | exact HB.out)))); have n4_ := Aside0.mk (below_step (by repeat (first | (with_reducible first | exact HB.out | apply below_alloc | apply pw_below_drewN | apply below_drew1) | exact HB.out)) hb); clear HO41003; clear HO41007; clear HO41010; clear HB; have HO41003 := n0_; have HO41007 := n1_; have HO41010 := n2_; have HO41014 := n3_; have HB := n4_; clear n0_ n1_ n2_ n3_ n4_; (try clear hb); (try clear hb2); (try clear hk); (try clear hi); (try clear ho0)))
 (try simp only [Act.put, List.setIfInBounds_toArray, List.set_cons_zero, List.set_cons_succ])
 go_cut [37] (fun v37 wc => ∃ (kq : Nat) (x37_6 : Bool), v37 = .bool x37_6 ∧ Aside0 (laws_FnExactInterlacePolynomial.j0 kq l0 t41004 t41005 t41008 t41011 t41012 x37_6 = some r) ∧ Aside0 (kq ≤ k) ∧ Aside0 (Kd.R (Kd.int .i64) 2 wc w.heap.size (fun k_ => some k_ ≠ ((.slice Ao12 t41008.length co12) : Value).ownBlock ∧ some k_ ≠ (v41013 : Value).ownBlock) v41006 t41004) ∧ Aside0 (Kd.R (Kd.int .i64) 2 wc w.heap.size (fun k_ => some k_ ≠ (v41006 : Value).ownBlock ∧ some k_ ≠ (v41013 : Value).ownBlock) (.slice Ao12 t41008.length co12) t41008) ∧ Aside0 (Kd.R (Kd.int .i64) 2 wc w.heap.size (fun k_ => some k_ ≠ (v41006 : Value).ownBlock ∧ some k_ ≠ ((.slice Ao12 t41008.length co12) : Value).ownBlock) v41013 t41011) ∧ Aside0 (Below w.heap.size w wc))
 case first =>
  have H := HC7.out
  clear HC7
  replace H := Option.bind_eq_some_iff.mp H
  obtain ⟨t41015, A140, H⟩ := H
  replace H : (if t41015 = true then (laws_FnExactInterlacePolynomial.j0 k l0 t41004 t41005 t41008 t41011 t41012 (t41012 != t41005)) else (laws_FnExactInterlacePolynomial.j0 k l0 t41004 t41005 t41008 t41011 t41012 true)) = some r := H
  have A14 := Aside0.mk A140
  clear A140
  by_cases c15 : t41015 = true
  ·subst c15
   have H1 : (laws_FnExactInterlacePolynomial.j0 k l0 t41004 t41005 t41008 t41011 t41012 (t41012 != t41005)) = some r := by rw [if_pos rfl] at H; exact H
   clear H
   have H := H1
   clear H1
   have H' := Aside0.mk H
   clear H
   obtain ⟨Ao16, co16, eo16⟩ := Kd.R_slice HO41014.out
   subst eo16
   obtain ⟨Ao17, co17, eo17⟩ := Kd.R_slice HO41007.out
   subst eo17
   go_wp2_with (first | ((with_reducible refine gate_callee (f := 37) rfl ?_); refine goesL_ (some 31) rfl rfl Try.func37 (by kernel_rfl) rfl #[.slice Ao16 t41011.length co16, .slice Ao17 t41004.length co17] rfl (by (try simp only [List.map_toArray, List.map_cons, List.map_nil]); first | done | rfl | (simp only [List.length_drop, List.length_take]; rfl)) ?_; (with_reducible refine (laws_eqInt64S.calls k _ _ t41011 _ _ t41004 true _ ?side1 ?side2 ?side3 ?side4 A14.out).mono ?_); (case side1 => repeat (first | exact (Kd.R_reads' HO41014.out).2.2 | (with_reducible refine Kd.C_alloc ?_ _) | (with_reducible refine Kd.C_drewN ?_ _) | (with_reducible refine Kd.C_drew ?_))); (case side2 => exact (Kd.R_reads' HO41014.out).2.1); (case side3 => repeat (first | exact (Kd.R_reads' HO41007.out).2.2 | (with_reducible refine Kd.C_alloc ?_ _) | (with_reducible refine Kd.C_drewN ?_ _) | (with_reducible refine Kd.C_drew ?_))); (case side4 => exact (Kd.R_reads' HO41007.out).2.1); rintro e w' ⟨rfl, ⟨nd, rfl⟩⟩; refine ⟨_, rfl, ?_⟩))
   go_meet
   case rel => exact ⟨_, ((t41012 != t41005)), (by first | rfl | (simp; done) | (simp [*]; done)), H', ⟨by first | omega | exact Nat.le_refl _⟩, ⟨by (with_reducible repeat (first | apply Kd.R_alloc | apply Kd.R_drewN | apply Kd.R_drew)); exact Kd.R_mono HO41007.out (fun _ hk => ⟨hk.1.2, hk.2⟩)⟩, ⟨by (with_reducible repeat (first | apply Kd.R_alloc | apply Kd.R_drewN | apply Kd.R_drew)); exact Kd.R_mono HO41010.out (fun _ hk => ⟨hk.1.2, hk.2⟩)⟩, ⟨by (with_reducible repeat (first | apply Kd.R_alloc | apply Kd.R_drewN | apply Kd.R_drew)); exact Kd.R_mono HO41014.out (fun _ hk => ⟨hk.1.2, hk.2⟩)⟩, ⟨by repeat (first | (with_reducible first | exact HB.out | apply below_alloc | apply pw_below_drewN | apply below_drew1) | exact HB.out)⟩⟩
  replace c15 := Bool.eq_false_iff.mpr c15
  subst c15
  have H1 : (laws_FnExactInterlacePolynomial.j0 k l0 t41004 t41005 t41008 t41011 t41012 true) = some r := by rw [if_neg (show ¬ (false = true) by decide)] at H; exact H
  clear H
  have H := H1
  clear H1
  have H' := Aside0.mk H
  clear H
  obtain ⟨Ao18, co18, eo18⟩ := Kd.R_slice HO41014.out
  subst eo18
  obtain ⟨Ao19, co19, eo19⟩ := Kd.R_slice HO41007.out
  subst eo19
  go_wp2_with (first | ((with_reducible refine gate_callee (f := 37) rfl ?_); refine goesL_ (some 31) rfl rfl Try.func37 (by kernel_rfl) rfl #[.slice Ao18 t41011.length co18, .slice Ao19 t41004.length co19] rfl (by (try simp only [List.map_toArray, List.map_cons, List.map_nil]); first | done | rfl | (simp only [List.length_drop, List.length_take]; rfl)) ?_; (with_reducible refine (laws_eqInt64S.calls k _ _ t41011 _ _ t41004 false _ ?side1 ?side2 ?side3 ?side4 A14.out).mono ?_); (case side1 => repeat (first | exact (Kd.R_reads' HO41014.out).2.2 | (with_reducible refine Kd.C_alloc ?_ _) | (with_reducible refine Kd.C_drewN ?_ _) | (with_reducible refine Kd.C_drew ?_))); (case side2 => exact (Kd.R_reads' HO41014.out).2.1); (case side3 => repeat (first | exact (Kd.R_reads' HO41007.out).2.2 | (with_reducible refine Kd.C_alloc ?_ _) | (with_reducible refine Kd.C_drewN ?_ _) | (with_reducible refine Kd.C_drew ?_))); (case side4 => exact (Kd.R_reads' HO41007.out).2.1); rintro e w' ⟨rfl, ⟨nd, rfl⟩⟩; refine ⟨_, rfl, ?_⟩))
  go_meet
  case rel => exact ⟨_, (true), (by first | rfl | (simp; done) | (simp [*]; done)), H', ⟨by first | omega | exact Nat.le_refl _⟩, ⟨by (with_reducible repeat (first | apply Kd.R_alloc | apply Kd.R_drewN | apply Kd.R_drew)); exact Kd.R_mono HO41007.out (fun _ hk => ⟨hk.1.2, hk.2⟩)⟩, ⟨by (with_reducible repeat (first | apply Kd.R_alloc | apply Kd.R_drewN | apply Kd.R_drew)); exact Kd.R_mono HO41010.out (fun _ hk => ⟨hk.1.2, hk.2⟩)⟩, ⟨by (with_reducible repeat (first | apply Kd.R_alloc | apply Kd.R_drewN | apply Kd.R_drew)); exact Kd.R_mono HO41014.out (fun _ hk => ⟨hk.1.2, hk.2⟩)⟩, ⟨by repeat (first | (with_reducible first | exact HB.out | apply below_alloc | apply pw_below_drewN | apply below_drew1) | exact HB.out)⟩⟩
 case rest =>
  clear HC7
  try clear c1
  try clear c2
  try clear c2b0
  try clear c2b1
  try clear p2
  try clear c3
  try clear c4
  try clear c15
  obtain ⟨kq, x37_6, rfl, HA, HJ6, HO_3, HO_5, HO_6, HB⟩ := hcut
  cases kq with
  | zero => exact absurd HA.out (by simp [laws_FnExactInterlacePolynomial.j0])
  | succ kj6 =>
   have H := HA.out
   clear HA
   simp only [laws_FnExactInterlacePolynomial.j0] at H
   by_cases c20 : x37_6 = true
   ·subst c20
    have H1 : (some false) = some r := by rw [if_pos rfl] at H; exact H
    clear H
    have H := H1
    clear H1
    obtain rfl := Option.some.inj H
    go_wp2
    go_ret
    exact ⟨by first | rfl | (simp [errW_none, errW_some] <;> rfl) | (simp [*, errW_none, errW_some] <;> rfl), by repeat (first | (with_reducible first | exact HB.out | apply below_alloc | apply pw_below_drewN | apply below_drew1) | exact HB.out)⟩
   replace c20 := Bool.eq_false_iff.mpr c20
   subst c20
   have H1 : ((laws_toInt64S.f kj6 l0).bind fun t41016 => ((laws_eqInt64S.f kj6 t41008 t41016).bind fun t41019 => (if t41019 = true then ((laws_markInt64S.f kj6 t41008 1).bind fun bt41020 => (if bt41020.1 < 0 then (laws_FnExactInterlacePolynomial.j1 kj6 l0 t41004 t41005 t41011 true) else ((laws_eqInt64S.f kj6 t41011 t41004).bind fun t41022 => (if t41022 = true then (laws_FnExactInterlacePolynomial.j1 kj6 l0 t41004 t41005 t41011 (t41012 != t41005)) else (laws_FnExactInterlacePolynomial.j1 kj6 l0 t41004 t41005 t41011 true))))) else (some false)))) = some r := by rw [if_neg (show ¬ (false = true) by decide)] at H; exact H
   clear H
   have H := H1
   clear H1
   replace H := Option.bind_eq_some_iff.mp H
   obtain ⟨t41016, A210, H⟩ := H
   replace H : ((laws_eqInt64S.f kj6 t41008 t41016).bind fun t41019 => (if t41019 = true then ((laws_markInt64S.f kj6 t41008 1).bind fun bt41020 => (if bt41020.1 < 0 then (laws_FnExactInterlacePolynomial.j1 kj6 l0 t41004 t41005 t41011 true) else ((laws_eqInt64S.f kj6 t41011 t41004).bind fun t41022 => (if t41022 = true then (laws_FnExactInterlacePolynomial.j1 kj6 l0 t41004 t41005 t41011 (t41012 != t41005)) else (laws_FnExactInterlacePolynomial.j1 kj6 l0 t41004 t41005 t41011 true))))) else (some false))) = some r := H
   have A21 := Aside0.mk A210
   clear A210
   replace H := Option.bind_eq_some_iff.mp H
   obtain ⟨t41019, A220, H⟩ := H
   replace H : (if t41019 = true then ((laws_markInt64S.f kj6 t41008 1).bind fun bt41020 => (if bt41020.1 < 0 then (laws_FnExactInterlacePolynomial.j1 kj6 l0 t41004 t41005 t41011 true) else ((laws_eqInt64S.f kj6 t41011 t41004).bind fun t41022 => (if t41022 = true then (laws_FnExactInterlacePolynomial.j1 kj6 l0 t41004 t41005 t41011 (t41012 != t41005)) else (laws_FnExactInterlacePolynomial.j1 kj6 l0 t41004 t41005 t41011 true))))) else (some false)) = some r := H
   have A22 := Aside0.mk A220
   clear A220
   by_cases c23 : t41019 = true
   rotate_left
   ·replace c23 := Bool.eq_false_iff.mpr c23
    subst c23
    have H1 : (some false) = some r := by rw [if_neg (show ¬ (false = true) by decide)] at H; exact H
    clear H
    have H := H1
    clear H1
    obtain rfl := Option.some.inj H
    go_wp2_with (first | ((with_reducible refine gate_callee (f := 35) rfl ?_); refine goesL_ (some 40) rfl rfl Try.func35 (by kernel_rfl) rfl #[.slice A0 l0.length c0] rfl (by (try simp only [List.map_toArray, List.map_cons, List.map_nil]); first | done | rfl | (simp only [List.length_drop, List.length_take]; rfl)) ?_; (with_reducible refine (laws_toInt64S.calls kj6 _ _ l0 t41016 _ ?side1 ?side2 A21.out).mono ?_); (case side1 => repeat (first | exact (Kd.C_below HR0.out HB.out) | (with_reducible refine Kd.C_alloc ?_ _) | (with_reducible refine Kd.C_drewN ?_ _) | (with_reducible refine Kd.C_drew ?_))); (case side2 => exact HC0.out); rintro e w63 ⟨v41017, rfl, ho0, hb⟩; refine ⟨_, rfl, ?_⟩; have n0_ := Aside0.mk (Kd.R_elder' (by (with_reducible repeat (first | apply Kd.R_alloc | apply Kd.R_drewN | apply Kd.R_drew)); exact HO_3.out) (Kd.R_base ho0) hb); have n1_ := Aside0.mk (Kd.R_elder' (by (with_reducible repeat (first | apply Kd.R_alloc | apply Kd.R_drewN | apply Kd.R_drew)); exact HO_5.out) (Kd.R_base ho0) hb); have n2_ := Aside0.mk (Kd.R_elder' (by (with_reducible repeat (first | apply Kd.R_alloc | apply Kd.R_drewN | apply Kd.R_drew)); exact HO_6.out) (Kd.R_base ho0) hb); have n3_ := Aside0.mk (Kd.R_lower (Kd.R_new' (Kd.R_new' (Kd.R_new' ho0 (Kd.R_lt (by (with_reducible repeat (first | apply Kd.R_alloc | apply Kd.R_drewN | apply Kd.R_drew)); exact HO_3.out))) (Kd.R_lt (by (with_reducible repeat (first | apply Kd.R_alloc | apply Kd.R_drewN | apply Kd.R_drew)); exact HO_5.out))) (Kd.R_lt (by (with_reducible repeat (first | apply Kd.R_alloc | apply Kd.R_drewN | apply Kd.R_drew)); exact HO_6.out))) (below_size (by repeat (first | (with_reducible first | exact HB.out | apply below_alloc | apply pw_below_drewN | apply below_drew1) | exact HB.out)))); have n4_ := Aside0.mk (below_step (by repeat (first | (with_reducible first | exact HB.out | apply below_alloc | apply pw_below_drewN | apply below_drew1) | exact HB.out)) hb); clear HO_3; clear HO_5; clear HO_6; clear HB; have HO_3 := n0_; have HO_5 := n1_; have HO_6 := n2_; have HO41018 := n3_; have HB := n4_; clear n0_ n1_ n2_ n3_ n4_; (try clear hb); (try clear hb2); (try clear hk); (try clear hi); (try clear ho0); obtain ⟨Ao64, co64, eo64⟩ := Kd.R_slice HO41018.out; subst eo64) | ((with_reducible refine gate_callee (f := 37) rfl ?_); refine goesL_ (some 41) rfl rfl Try.func37 (by kernel_rfl) rfl #[.slice Ao12 t41008.length co12, .slice Ao64 t41016.length co64] rfl (by (try simp only [List.map_toArray, List.map_cons, List.map_nil]); first | done | rfl | (simp only [List.length_drop, List.length_take]; rfl)) ?_; (with_reducible refine (laws_eqInt64S.calls kj6 _ _ t41008 _ _ t41016 false _ ?side1 ?side2 ?side3 ?side4 A22.out).mono ?_); (case side1 => repeat (first | exact (Kd.R_reads' HO_5.out).2.2 | (with_reducible refine Kd.C_alloc ?_ _) | (with_reducible refine Kd.C_drewN ?_ _) | (with_reducible refine Kd.C_drew ?_))); (case side2 => exact (Kd.R_reads' HO_5.out).2.1); (case side3 => repeat (first | exact (Kd.R_reads' HO41018.out).2.2 | (with_reducible refine Kd.C_alloc ?_ _) | (with_reducible refine Kd.C_drewN ?_ _) | (with_reducible refine Kd.C_drew ?_))); (case side4 => exact (Kd.R_reads' HO41018.out).2.1); rintro e w' ⟨rfl, ⟨nd, rfl⟩⟩; refine ⟨_, rfl, ?_⟩))
    go_ret
    exact ⟨by first | rfl | (simp [errW_none, errW_some] <;> rfl) | (simp [*, errW_none, errW_some] <;> rfl), by repeat (first | (with_reducible first | exact HB.out | apply below_alloc | apply pw_below_drewN | apply below_drew1) | exact HB.out)⟩
   subst c23
   have H1 : ((laws_markInt64S.f kj6 t41008 1).bind fun bt41020 => (if bt41020.1 < 0 then (laws_FnExactInterlacePolynomial.j1 kj6 l0 t41004 t41005 t41011 true) else ((laws_eqInt64S.f kj6 t41011 t41004).bind fun t41022 => (if t41022 = true then (laws_FnExactInterlacePolynomial.j1 kj6 l0 t41004 t41005 t41011 (t41012 != t41005)) else (laws_FnExactInterlacePolynomial.j1 kj6 l0 t41004 t41005 t41011 true))))) = some r := by rw [if_pos rfl] at H; exact H
   clear H
   have H := H1
   clear H1
   replace H := Option.bind_eq_some_iff.mp H
   obtain ⟨⟨t41020, t41021⟩, A240, H⟩ := H
   replace H : (if t41020 < 0 then (laws_FnExactInterlacePolynomial.j1 kj6 l0 t41004 t41005 t41011 true) else ((laws_eqInt64S.f kj6 t41011 t41004).bind fun t41022 => (if t41022 = true then (laws_FnExactInterlacePolynomial.j1 kj6 l0 t41004 t41005 t41011 (t41012 != t41005)) else (laws_FnExactInterlacePolynomial.j1 kj6 l0 t41004 t41005 t41011 true)))) = some r := H
   have A24 := Aside0.mk A240
   clear A240
   have HC25 := Aside0.mk H
   clear H
   go_upto_region 12 with (first | ((with_reducible refine gate_callee (f := 35) rfl ?_); refine goesL_ (some 40) rfl rfl Try.func35 (by kernel_rfl) rfl #[.slice A0 l0.length c0] rfl (by (try simp only [List.map_toArray, List.map_cons, List.map_nil]); first | done | rfl | (simp only [List.length_drop, List.length_take]; rfl)) ?_; (with_reducible refine (laws_toInt64S.calls kj6 _ _ l0 t41016 _ ?side1 ?side2 A21.out).mono ?_); (case side1 => repeat (first | exact (Kd.C_below HR0.out HB.out) | (with_reducible refine Kd.C_alloc ?_ _) | (with_reducible refine Kd.C_drewN ?_ _) | (with_reducible refine Kd.C_drew ?_))); (case side2 => exact HC0.out); rintro e w26 ⟨v41017, rfl, ho0, hb⟩; refine ⟨_, rfl, ?_⟩; have n0_ := Aside0.mk (Kd.R_elder' (by (with_reducible repeat (first | apply Kd.R_alloc | apply Kd.R_drewN | apply Kd.R_drew)); exact HO_3.out) (Kd.R_base ho0) hb); have n1_ := Aside0.mk (Kd.R_elder' (by (with_reducible repeat (first | apply Kd.R_alloc | apply Kd.R_drewN | apply Kd.R_drew)); exact HO_5.out) (Kd.R_base ho0) hb); have n2_ := Aside0.mk (Kd.R_elder' (by (with_reducible repeat (first | apply Kd.R_alloc | apply Kd.R_drewN | apply Kd.R_drew)); exact HO_6.out) (Kd.R_base ho0) hb); have n3_ := Aside0.mk (Kd.R_lower (Kd.R_new' (Kd.R_new' (Kd.R_new' ho0 (Kd.R_lt (by (with_reducible repeat (first | apply Kd.R_alloc | apply Kd.R_drewN | apply Kd.R_drew)); exact HO_3.out))) (Kd.R_lt (by (with_reducible repeat (first | apply Kd.R_alloc | apply Kd.R_drewN | apply Kd.R_drew)); exact HO_5.out))) (Kd.R_lt (by (with_reducible repeat (first | apply Kd.R_alloc | apply Kd.R_drewN | apply Kd.R_drew)); exact HO_6.out))) (below_size (by repeat (first | (with_reducible first | exact HB.out | apply below_alloc | apply pw_below_drewN | apply below_drew1) | exact HB.out)))); have n4_ := Aside0.mk (below_step (by repeat (first | (with_reducible first | exact HB.out | apply below_alloc | apply pw_below_drewN | apply below_drew1) | exact HB.out)) hb); clear HO_3; clear HO_5; clear HO_6; clear HB; have HO_3 := n0_; have HO_5 := n1_; have HO_6 := n2_; have HO41018 := n3_; have HB := n4_; clear n0_ n1_ n2_ n3_ n4_; (try clear hb); (try clear hb2); (try clear hk); (try clear hi); (try clear ho0); obtain ⟨Ao27, co27, eo27⟩ := Kd.R_slice HO41018.out; subst eo27) | ((with_reducible refine gate_callee (f := 37) rfl ?_); refine goesL_ (some 41) rfl rfl Try.func37 (by kernel_rfl) rfl #[.slice Ao12 t41008.length co12, .slice Ao27 t41016.length co27] rfl (by (try simp only [List.map_toArray, List.map_cons, List.map_nil]); first | done | rfl | (simp only [List.length_drop, List.length_take]; rfl)) ?_; (with_reducible refine (laws_eqInt64S.calls kj6 _ _ t41008 _ _ t41016 true _ ?side1 ?side2 ?side3 ?side4 A22.out).mono ?_); (case side1 => repeat (first | exact (Kd.R_reads' HO_5.out).2.2 | (with_reducible refine Kd.C_alloc ?_ _) | (with_reducible refine Kd.C_drewN ?_ _) | (with_reducible refine Kd.C_drew ?_))); (case side2 => exact (Kd.R_reads' HO_5.out).2.1); (case side3 => repeat (first | exact (Kd.R_reads' HO41018.out).2.2 | (with_reducible refine Kd.C_alloc ?_ _) | (with_reducible refine Kd.C_drewN ?_ _) | (with_reducible refine Kd.C_drew ?_))); (case side4 => exact (Kd.R_reads' HO41018.out).2.1); rintro e w' ⟨rfl, ⟨nd, rfl⟩⟩; refine ⟨_, rfl, ?_⟩) | ((with_reducible refine gate_callee (f := 38) rfl ?_); refine goesL_ (some 45) rfl rfl Try.func38 (by kernel_rfl) rfl #[.slice Ao12 t41008.length co12, .int .i64 1] rfl (by (try simp only [List.map_toArray, List.map_cons, List.map_nil]); first | done | rfl | (simp only [List.length_drop, List.length_take]; rfl)) ?_; (with_reducible refine (laws_markInt64S.calls kj6 (fun k_ => some k_ = (.slice Ao12 t41008.length co12 : Value).ownBlock) (.slice Ao12 t41008.length co12) t41008 1 t41020 t41021 w _ ?side1 ?side2 A24.out).mono ?_); (case side1 => repeat (first | (with_reducible first | exact HB.out | apply below_alloc | apply pw_below_drewN | apply below_drew1) | exact HB.out)); (case side2 => exact Kd.R_tight rfl HO_5.out); rintro e w28 ⟨rfl, hy0, hb, hkp⟩; refine ⟨_, rfl, ?_⟩; have n0_ := Aside0.mk (Kd.R_mono (ok' := fun k_ => some k_ ≠ (.slice Ao12 t41008.length co12 : Value).ownBlock ∧ some k_ ≠ (v41013 : Value).ownBlock ∧ some k_ ≠ (.slice Ao27 t41016.length co27 : Value).ownBlock) (Kd.R_keptB (HO_3.out) hkp (fun k_ hk_ hs_ => (hk_.1.1) hs_)) (fun k_ hk_ => ⟨hk_.1.1.1, hk_.1.1.2, hk_.1.2⟩)); have n1_ := Aside0.mk (Kd.R_reok rfl hy0 (fun k_ e_ => HO_5.out.1 k_ e_)); have n2_ := Aside0.mk (Kd.R_mono (ok' := fun k_ => some k_ ≠ (v41006 : Value).ownBlock ∧ some k_ ≠ (.slice Ao12 t41008.length co12 : Value).ownBlock ∧ some k_ ≠ (.slice Ao27 t41016.length co27 : Value).ownBlock) (Kd.R_keptB (HO_6.out) hkp (fun k_ hk_ hs_ => (hk_.1.2) hs_)) (fun k_ hk_ => ⟨hk_.1.1.1, hk_.1.1.2, hk_.1.2⟩)); have n3_ := Aside0.mk (Kd.R_mono (ok' := fun k_ => some k_ ≠ (v41006 : Value).ownBlock ∧ some k_ ≠ (.slice Ao12 t41008.length co12 : Value).ownBlock ∧ some k_ ≠ (v41013 : Value).ownBlock) (Kd.R_keptB (HO41018.out) hkp (fun k_ hk_ hs_ => (hk_.1.2) hs_)) (fun k_ hk_ => ⟨hk_.1.1.1.2, hk_.1.1.2, hk_.1.2⟩)); have n4_ := Aside0.mk (hb); clear HO_3; clear HO_5; clear HO_6; clear HO41018; clear HB; have HO_3 := n0_; have HO_5 := n1_; have HO_6 := n2_; have HO41018 := n3_; have HB := n4_; clear n0_ n1_ n2_ n3_ n4_; (try clear hb); (try clear hkp); (try clear hy0)))
   (try simp only [Act.put, List.setIfInBounds_toArray, List.set_cons_zero, List.set_cons_succ])
   go_cut [58] (fun v58 wc => ∃ (kq : Nat) (x58_24 : Bool), v58 = .bool x58_24 ∧ Aside0 (laws_FnExactInterlacePolynomial.j1 kq l0 t41004 t41005 t41011 x58_24 = some r) ∧ Aside0 (kq ≤ kj6) ∧ Aside0 (Kd.R (Kd.int .i64) 2 wc w.heap.size (fun k_ => some k_ ≠ (v41013 : Value).ownBlock) v41006 t41004) ∧ Aside0 (Kd.R (Kd.int .i64) 2 wc w.heap.size (fun k_ => some k_ ≠ (v41006 : Value).ownBlock) v41013 t41011) ∧ Aside0 (Below w.heap.size w wc))
   case first =>
    have H := HC25.out
    clear HC25
    by_cases c29 : t41020 < 0
    ·rw [if_pos c29] at H
     have c29b0 : decide (t41020 < 0) = true := decide_eq_true c29
     clear c29
     (first | rw [c29b0] | (simp only [i64_w, i32_w]; rw [c29b0]) | skip)
     have H' := Aside0.mk H
     clear H
     go_wp2
     go_meet
     case rel => exact ⟨_, (true), (by first | rfl | (simp; done) | (simp [*]; done)), H', ⟨by have := HJ6.out; first | omega | exact Nat.le_refl _⟩, ⟨by (with_reducible repeat (first | apply Kd.R_alloc | apply Kd.R_drewN | apply Kd.R_drew)); exact Kd.R_mono HO_3.out (fun _ hk => hk.2.1)⟩, ⟨by (with_reducible repeat (first | apply Kd.R_alloc | apply Kd.R_drewN | apply Kd.R_drew)); exact Kd.R_mono HO_6.out (fun _ hk => hk.1)⟩, ⟨by repeat (first | (with_reducible first | exact HB.out | apply below_alloc | apply pw_below_drewN | apply below_drew1) | exact HB.out)⟩⟩
    rw [if_neg c29] at H
    have c29b0 : decide (t41020 < 0) = false := decide_eq_false c29
    clear c29
    (first | rw [c29b0] | (simp only [i64_w, i32_w]; rw [c29b0]) | skip)
    replace H := Option.bind_eq_some_iff.mp H
    obtain ⟨t41022, A300, H⟩ := H
    replace H : (if t41022 = true then (laws_FnExactInterlacePolynomial.j1 kj6 l0 t41004 t41005 t41011 (t41012 != t41005)) else (laws_FnExactInterlacePolynomial.j1 kj6 l0 t41004 t41005 t41011 true)) = some r := H
    have A30 := Aside0.mk A300
    clear A300
    by_cases c31 : t41022 = true
    ·subst c31
     have H1 : (laws_FnExactInterlacePolynomial.j1 kj6 l0 t41004 t41005 t41011 (t41012 != t41005)) = some r := by rw [if_pos rfl] at H; exact H
     clear H
     have H := H1
     clear H1
     have H' := Aside0.mk H
     clear H
     obtain ⟨Ao32, co32, eo32⟩ := Kd.R_slice HO_6.out
     subst eo32
     obtain ⟨Ao33, co33, eo33⟩ := Kd.R_slice HO_3.out
     subst eo33
     go_wp2_with (first | (go_at_call 37; (with_reducible refine (laws_eqInt64S.calls kj6 _ _ t41011 _ _ t41004 true _ ?side1 ?side2 ?side3 ?side4 A30.out).mono ?_); (case side1 => repeat (first | exact (Kd.R_reads' HO_6.out).2.2 | (with_reducible refine Kd.C_alloc ?_ _) | (with_reducible refine Kd.C_drewN ?_ _) | (with_reducible refine Kd.C_drew ?_))); (case side2 => exact (Kd.R_reads' HO_6.out).2.1); (case side3 => repeat (first | exact (Kd.R_reads' HO_3.out).2.2 | (with_reducible refine Kd.C_alloc ?_ _) | (with_reducible refine Kd.C_drewN ?_ _) | (with_reducible refine Kd.C_drew ?_))); (case side4 => exact (Kd.R_reads' HO_3.out).2.1); rintro e w' ⟨rfl, ⟨nd, rfl⟩⟩))
     go_meet
     case rel => exact ⟨_, ((t41012 != t41005)), (by first | rfl | (simp; done) | (simp [*]; done)), H', ⟨by have := HJ6.out; first | omega | exact Nat.le_refl _⟩, ⟨by (with_reducible repeat (first | apply Kd.R_alloc | apply Kd.R_drewN | apply Kd.R_drew)); exact Kd.R_mono HO_3.out (fun _ hk => hk.2.1)⟩, ⟨by (with_reducible repeat (first | apply Kd.R_alloc | apply Kd.R_drewN | apply Kd.R_drew)); exact Kd.R_mono HO_6.out (fun _ hk => hk.1)⟩, ⟨by repeat (first | (with_reducible first | exact HB.out | apply below_alloc | apply pw_below_drewN | apply below_drew1) | exact HB.out)⟩⟩
    replace c31 := Bool.eq_false_iff.mpr c31
    subst c31
    have H1 : (laws_FnExactInterlacePolynomial.j1 kj6 l0 t41004 t41005 t41011 true) = some r := by rw [if_neg (show ¬ (false = true) by decide)] at H; exact H
    clear H
    have H := H1
    clear H1
    have H' := Aside0.mk H
    clear H
    obtain ⟨Ao34, co34, eo34⟩ := Kd.R_slice HO_6.out
    subst eo34
    obtain ⟨Ao35, co35, eo35⟩ := Kd.R_slice HO_3.out
    subst eo35
    go_wp2_with (first | (go_at_call 37; (with_reducible refine (laws_eqInt64S.calls kj6 _ _ t41011 _ _ t41004 false _ ?side1 ?side2 ?side3 ?side4 A30.out).mono ?_); (case side1 => repeat (first | exact (Kd.R_reads' HO_6.out).2.2 | (with_reducible refine Kd.C_alloc ?_ _) | (with_reducible refine Kd.C_drewN ?_ _) | (with_reducible refine Kd.C_drew ?_))); (case side2 => exact (Kd.R_reads' HO_6.out).2.1); (case side3 => repeat (first | exact (Kd.R_reads' HO_3.out).2.2 | (with_reducible refine Kd.C_alloc ?_ _) | (with_reducible refine Kd.C_drewN ?_ _) | (with_reducible refine Kd.C_drew ?_))); (case side4 => exact (Kd.R_reads' HO_3.out).2.1); rintro e w' ⟨rfl, ⟨nd, rfl⟩⟩))
    go_meet
    case rel => exact ⟨_, (true), (by first | rfl | (simp; done) | (simp [*]; done)), H', ⟨by have := HJ6.out; first | omega | exact Nat.le_refl _⟩, ⟨by (with_reducible repeat (first | apply Kd.R_alloc | apply Kd.R_drewN | apply Kd.R_drew)); exact Kd.R_mono HO_3.out (fun _ hk => hk.2.1)⟩, ⟨by (with_reducible repeat (first | apply Kd.R_alloc | apply Kd.R_drewN | apply Kd.R_drew)); exact Kd.R_mono HO_6.out (fun _ hk => hk.1)⟩, ⟨by repeat (first | (with_reducible first | exact HB.out | apply below_alloc | apply pw_below_drewN | apply below_drew1) | exact HB.out)⟩⟩
   case rest =>
    clear HC25
    try clear c1
    try clear c2
    try clear c2b0
    try clear c2b1
    try clear p2
    try clear c3
    try clear c4
    try clear c15
    try clear c20
    try clear c23
    try clear c29
    try clear c29b0
    try clear c31
    try clear c34
    try clear c35
    try clear p2
    obtain ⟨kq, x58_24, rfl, HA, HJ24, HO_3, HO_6, HB⟩ := hcut
    cases kq with
    | zero => exact absurd HA.out (by simp [laws_FnExactInterlacePolynomial.j1])
    | succ kj24 =>
     have H := HA.out
     clear HA
     simp only [laws_FnExactInterlacePolynomial.j1] at H
     by_cases c36 : x58_24 = true
     ·subst c36
      have H1 : (some false) = some r := by rw [if_pos rfl] at H; exact H
      clear H
      have H := H1
      clear H1
      obtain rfl := Option.some.inj H
      go_wp2
      go_ret
      exact ⟨by first | rfl | (simp [errW_none, errW_some] <;> rfl) | (simp [*, errW_none, errW_some] <;> rfl), by repeat (first | (with_reducible first | exact HB.out | apply below_alloc | apply pw_below_drewN | apply below_drew1) | exact HB.out)⟩
     replace c36 := Bool.eq_false_iff.mpr c36
     subst c36
     have H1 : ((laws_markInt64S.f kj24 t41011 1).bind fun bt41023 => ((laws_heldInt64S.f kj24 bt41023.2 1).bind fun t41025 => (if t41025 < 0 then (some false) else (if t41025 = bt41023.1 then ((laws_toInt64S.f kj24 l0).bind fun t41026 => ((impl_InterlacePolynomial.f kj24 t41026).bind fun bt41029 => ((laws_eqInt64S.f kj24 bt41029.1 t41004).bind fun t41033 => (if t41033 = true then (laws_FnExactInterlacePolynomial.j2 kj24 bt41023.2 bt41023.1 (bt41029.2 != t41005)) else (laws_FnExactInterlacePolynomial.j2 kj24 bt41023.2 bt41023.1 true))))) else (some false))))) = some r := by rw [if_neg (show ¬ (false = true) by decide)] at H; exact H
     clear H
     have H := H1
     clear H1
     replace H := Option.bind_eq_some_iff.mp H
     obtain ⟨⟨t41023, t41024⟩, A370, H⟩ := H
     replace H : ((laws_heldInt64S.f kj24 t41024 1).bind fun t41025 => (if t41025 < 0 then (some false) else (if t41025 = t41023 then ((laws_toInt64S.f kj24 l0).bind fun t41026 => ((impl_InterlacePolynomial.f kj24 t41026).bind fun bt41029 => ((laws_eqInt64S.f kj24 bt41029.1 t41004).bind fun t41033 => (if t41033 = true then (laws_FnExactInterlacePolynomial.j2 kj24 t41024 t41023 (bt41029.2 != t41005)) else (laws_FnExactInterlacePolynomial.j2 kj24 t41024 t41023 true))))) else (some false)))) = some r := H
     have A37 := Aside0.mk A370
     clear A370
     replace H := Option.bind_eq_some_iff.mp H
     obtain ⟨t41025, A380, H⟩ := H
     replace H : (if t41025 < 0 then (some false) else (if t41025 = t41023 then ((laws_toInt64S.f kj24 l0).bind fun t41026 => ((impl_InterlacePolynomial.f kj24 t41026).bind fun bt41029 => ((laws_eqInt64S.f kj24 bt41029.1 t41004).bind fun t41033 => (if t41033 = true then (laws_FnExactInterlacePolynomial.j2 kj24 t41024 t41023 (bt41029.2 != t41005)) else (laws_FnExactInterlacePolynomial.j2 kj24 t41024 t41023 true))))) else (some false))) = some r := H
     have A38 := Aside0.mk A380
     clear A380
     by_cases c39 : t41025 < 0
     ·rw [if_pos c39] at H
      have c39b0 : decide (t41025 < 0) = true := decide_eq_true c39
      clear c39
      obtain rfl := Option.some.inj H
      obtain ⟨Ao40, co40, eo40⟩ := Kd.R_slice HO_6.out
      subst eo40
      go_wp2_with (first | ((with_reducible refine gate_callee (f := 38) rfl ?_); refine goesL_ (some 61) rfl rfl Try.func38 (by kernel_rfl) rfl #[.slice Ao40 t41011.length co40, .int .i64 1] rfl (by (try simp only [List.map_toArray, List.map_cons, List.map_nil]); first | done | rfl | (simp only [List.length_drop, List.length_take]; rfl)) ?_; (with_reducible refine (laws_markInt64S.calls kj24 (fun k_ => some k_ = (.slice Ao40 t41011.length co40 : Value).ownBlock) (.slice Ao40 t41011.length co40) t41011 1 t41023 t41024 w _ ?side1 ?side2 A37.out).mono ?_); (case side1 => repeat (first | (with_reducible first | exact HB.out | apply below_alloc | apply pw_below_drewN | apply below_drew1) | exact HB.out)); (case side2 => exact Kd.R_tight rfl HO_6.out); rintro e w41 ⟨rfl, hy0, hb, hkp⟩; refine ⟨_, rfl, ?_⟩; have n0_ := Aside0.mk (Kd.R_mono (ok' := fun k_ => some k_ ≠ (.slice Ao40 t41011.length co40 : Value).ownBlock) (Kd.R_keptB (HO_3.out) hkp (fun k_ hk_ hs_ => (hk_) hs_)) (fun k_ hk_ => hk_.1)); have n1_ := Aside0.mk (Kd.R_reok rfl hy0 (fun k_ e_ => HO_6.out.1 k_ e_)); have n2_ := Aside0.mk (hb); clear HO_3; clear HO_6; clear HB; have HO_3 := n0_; have HO_6 := n1_; have HB := n2_; clear n0_ n1_ n2_; (try clear hb); (try clear hkp); (try clear hy0)) | ((with_reducible refine gate_callee (f := 39) rfl ?_); refine goesL_ (some 64) rfl rfl Try.func39 (by kernel_rfl) rfl #[.slice Ao40 t41024.length co40, .int .i64 1] rfl (by (try simp only [List.map_toArray, List.map_cons, List.map_nil]); first | done | (rw [show t41024.length = t41011.length from (Kd.R_reads' HO_6.out).1.symm] <;> rfl) | rfl | (simp only [List.length_drop, List.length_take]; rfl)) ?_; (with_reducible refine (laws_heldInt64S.calls kj24 _ _ t41024 1 t41025 _ ?side1 ?side2 A38.out).mono ?_); (case side1 => repeat (first | exact (Kd.R_reads' HO_6.out).2.2 | (with_reducible refine Kd.C_alloc ?_ _) | (with_reducible refine Kd.C_drewN ?_ _) | (with_reducible refine Kd.C_drew ?_))); (case side2 => rw [show t41024.length = t41011.length from (Kd.R_reads' HO_6.out).1.symm]; exact (Kd.R_reads' HO_6.out).2.1); rintro e w' ⟨rfl, ⟨nd, rfl⟩⟩; refine ⟨_, rfl, ?_⟩))
      go_ret
      exact ⟨by first | rfl | (simp [errW_none, errW_some] <;> rfl) | (simp [*, errW_none, errW_some] <;> rfl), by repeat (first | (with_reducible first | exact HB.out | apply below_alloc | apply pw_below_drewN | apply below_drew1) | exact HB.out)⟩
     rw [if_neg c39] at H
     have c39b0 : decide (t41025 < 0) = false := decide_eq_false c39
     clear c39
     by_cases c42 : t41025 = t41023
     rotate_left
     ·rw [if_neg c42] at H
      have c42b0 : (t41025 == t41023) = false := beq_eq_false_iff_ne.mpr c42
      have c42b1 : (t41025 != t41023) = true := bne_iff_ne.mpr c42
      obtain rfl := Option.some.inj H
      obtain ⟨Ao61, co61, eo61⟩ := Kd.R_slice HO_6.out
      subst eo61
      go_wp2_with (first | ((with_reducible refine gate_callee (f := 38) rfl ?_); refine goesL_ (some 61) rfl rfl Try.func38 (by kernel_rfl) rfl #[.slice Ao61 t41011.length co61, .int .i64 1] rfl (by (try simp only [List.map_toArray, List.map_cons, List.map_nil]); first | done | rfl | (simp only [List.length_drop, List.length_take]; rfl)) ?_; (with_reducible refine (laws_markInt64S.calls kj24 (fun k_ => some k_ = (.slice Ao61 t41011.length co61 : Value).ownBlock) (.slice Ao61 t41011.length co61) t41011 1 t41023 t41024 w _ ?side1 ?side2 A37.out).mono ?_); (case side1 => repeat (first | (with_reducible first | exact HB.out | apply below_alloc | apply pw_below_drewN | apply below_drew1) | exact HB.out)); (case side2 => exact Kd.R_tight rfl HO_6.out); rintro e w62 ⟨rfl, hy0, hb, hkp⟩; refine ⟨_, rfl, ?_⟩; have n0_ := Aside0.mk (Kd.R_mono (ok' := fun k_ => some k_ ≠ (.slice Ao61 t41011.length co61 : Value).ownBlock) (Kd.R_keptB (HO_3.out) hkp (fun k_ hk_ hs_ => (hk_) hs_)) (fun k_ hk_ => hk_.1)); have n1_ := Aside0.mk (Kd.R_reok rfl hy0 (fun k_ e_ => HO_6.out.1 k_ e_)); have n2_ := Aside0.mk (hb); clear HO_3; clear HO_6; clear HB; have HO_3 := n0_; have HO_6 := n1_; have HB := n2_; clear n0_ n1_ n2_; (try clear hb); (try clear hkp); (try clear hy0)) | ((with_reducible refine gate_callee (f := 39) rfl ?_); refine goesL_ (some 64) rfl rfl Try.func39 (by kernel_rfl) rfl #[.slice Ao61 t41024.length co61, .int .i64 1] rfl (by (try simp only [List.map_toArray, List.map_cons, List.map_nil]); first | done | (rw [show t41024.length = t41011.length from (Kd.R_reads' HO_6.out).1.symm] <;> rfl) | rfl | (simp only [List.length_drop, List.length_take]; rfl)) ?_; (with_reducible refine (laws_heldInt64S.calls kj24 _ _ t41024 1 t41025 _ ?side1 ?side2 A38.out).mono ?_); (case side1 => repeat (first | exact (Kd.R_reads' HO_6.out).2.2 | (with_reducible refine Kd.C_alloc ?_ _) | (with_reducible refine Kd.C_drewN ?_ _) | (with_reducible refine Kd.C_drew ?_))); (case side2 => rw [show t41024.length = t41011.length from (Kd.R_reads' HO_6.out).1.symm]; exact (Kd.R_reads' HO_6.out).2.1); rintro e w' ⟨rfl, ⟨nd, rfl⟩⟩; refine ⟨_, rfl, ?_⟩))
      go_ret
      exact ⟨by first | rfl | (simp [errW_none, errW_some] <;> rfl) | (simp [*, errW_none, errW_some] <;> rfl), by repeat (first | (with_reducible first | exact HB.out | apply below_alloc | apply pw_below_drewN | apply below_drew1) | exact HB.out)⟩
     rw [if_pos c42] at H
     have c42b0 : (t41025 == t41023) = true := beq_iff_eq.mpr c42
     have c42b1 : (t41025 != t41023) = false := bne_eq_false_iff_eq.mpr c42
     clear c42
     replace H := Option.bind_eq_some_iff.mp H
     obtain ⟨t41026, A430, H⟩ := H
     replace H : ((impl_InterlacePolynomial.f kj24 t41026).bind fun bt41029 => ((laws_eqInt64S.f kj24 bt41029.1 t41004).bind fun t41033 => (if t41033 = true then (laws_FnExactInterlacePolynomial.j2 kj24 t41024 t41023 (bt41029.2 != t41005)) else (laws_FnExactInterlacePolynomial.j2 kj24 t41024 t41023 true)))) = some r := H
     have A43 := Aside0.mk A430
     clear A430
     replace H := Option.bind_eq_some_iff.mp H
     obtain ⟨⟨t41029, t41030⟩, A440, H⟩ := H
     replace H : ((laws_eqInt64S.f kj24 t41029 t41004).bind fun t41033 => (if t41033 = true then (laws_FnExactInterlacePolynomial.j2 kj24 t41024 t41023 (t41030 != t41005)) else (laws_FnExactInterlacePolynomial.j2 kj24 t41024 t41023 true))) = some r := H
     have A44 := Aside0.mk A440
     clear A440
     have HC45 := Aside0.mk H
     clear H
     obtain ⟨Ao46, co46, eo46⟩ := Kd.R_slice HO_6.out
     subst eo46
     go_upto_region 23 with (first | ((with_reducible refine gate_callee (f := 38) rfl ?_); refine goesL_ (some 61) rfl rfl Try.func38 (by kernel_rfl) rfl #[.slice Ao46 t41011.length co46, .int .i64 1] rfl (by (try simp only [List.map_toArray, List.map_cons, List.map_nil]); first | done | rfl | (simp only [List.length_drop, List.length_take]; rfl)) ?_; (with_reducible refine (laws_markInt64S.calls kj24 (fun k_ => some k_ = (.slice Ao46 t41011.length co46 : Value).ownBlock) (.slice Ao46 t41011.length co46) t41011 1 t41023 t41024 w _ ?side1 ?side2 A37.out).mono ?_); (case side1 => repeat (first | (with_reducible first | exact HB.out | apply below_alloc | apply pw_below_drewN | apply below_drew1) | exact HB.out)); (case side2 => exact Kd.R_tight rfl HO_6.out); rintro e w47 ⟨rfl, hy0, hb, hkp⟩; refine ⟨_, rfl, ?_⟩; have n0_ := Aside0.mk (Kd.R_mono (ok' := fun k_ => some k_ ≠ (.slice Ao46 t41011.length co46 : Value).ownBlock) (Kd.R_keptB (HO_3.out) hkp (fun k_ hk_ hs_ => (hk_) hs_)) (fun k_ hk_ => hk_.1)); have n1_ := Aside0.mk (Kd.R_reok rfl hy0 (fun k_ e_ => HO_6.out.1 k_ e_)); have n2_ := Aside0.mk (hb); clear HO_3; clear HO_6; clear HB; have HO_3 := n0_; have HO_6 := n1_; have HB := n2_; clear n0_ n1_ n2_; (try clear hb); (try clear hkp); (try clear hy0)) | ((with_reducible refine gate_callee (f := 39) rfl ?_); refine goesL_ (some 64) rfl rfl Try.func39 (by kernel_rfl) rfl #[.slice Ao46 t41024.length co46, .int .i64 1] rfl (by (try simp only [List.map_toArray, List.map_cons, List.map_nil]); first | done | (rw [show t41024.length = t41011.length from (Kd.R_reads' HO_6.out).1.symm] <;> rfl) | rfl | (simp only [List.length_drop, List.length_take]; rfl)) ?_; (with_reducible refine (laws_heldInt64S.calls kj24 _ _ t41024 1 t41025 _ ?side1 ?side2 A38.out).mono ?_); (case side1 => repeat (first | exact (Kd.R_reads' HO_6.out).2.2 | (with_reducible refine Kd.C_alloc ?_ _) | (with_reducible refine Kd.C_drewN ?_ _) | (with_reducible refine Kd.C_drew ?_))); (case side2 => rw [show t41024.length = t41011.length from (Kd.R_reads' HO_6.out).1.symm]; exact (Kd.R_reads' HO_6.out).2.1); rintro e w' ⟨rfl, ⟨nd, rfl⟩⟩; refine ⟨_, rfl, ?_⟩) | ((with_reducible refine gate_callee (f := 35) rfl ?_); refine goesL_ (some 72) rfl rfl Try.func35 (by kernel_rfl) rfl #[.slice A0 l0.length c0] rfl (by (try simp only [List.map_toArray, List.map_cons, List.map_nil]); first | done | rfl | (simp only [List.length_drop, List.length_take]; rfl)) ?_; (with_reducible refine (laws_toInt64S.calls kj24 _ _ l0 t41026 _ ?side1 ?side2 A43.out).mono ?_); (case side1 => repeat (first | exact (Kd.C_below HR0.out (by repeat (first | (with_reducible first | exact HB.out | apply below_alloc | apply pw_below_drewN | apply below_drew1) | exact HB.out))) | (with_reducible refine Kd.C_alloc ?_ _) | (with_reducible refine Kd.C_drewN ?_ _) | (with_reducible refine Kd.C_drew ?_))); (case side2 => exact HC0.out); rintro e w48 ⟨v41027, rfl, ho0, hb⟩; refine ⟨_, rfl, ?_⟩; have n0_ := Aside0.mk (Kd.R_elder' (by (with_reducible repeat (first | apply Kd.R_alloc | apply Kd.R_drewN | apply Kd.R_drew)); exact HO_3.out) (Kd.R_base ho0) hb); have n1_ := Aside0.mk (Kd.R_elder' (by (with_reducible repeat (first | apply Kd.R_alloc | apply Kd.R_drewN | apply Kd.R_drew)); exact HO_6.out) (Kd.R_base ho0) hb); have n2_ := Aside0.mk (Kd.R_lower (Kd.R_new' (Kd.R_new' ho0 (Kd.R_lt (by (with_reducible repeat (first | apply Kd.R_alloc | apply Kd.R_drewN | apply Kd.R_drew)); exact HO_3.out))) (Kd.R_lt (by (with_reducible repeat (first | apply Kd.R_alloc | apply Kd.R_drewN | apply Kd.R_drew)); exact HO_6.out))) (below_size (by repeat (first | (with_reducible first | exact HB.out | apply below_alloc | apply pw_below_drewN | apply below_drew1) | exact HB.out)))); have n3_ := Aside0.mk (below_step (by repeat (first | (with_reducible first | exact HB.out | apply below_alloc | apply pw_below_drewN | apply below_drew1) | exact HB.out)) hb); clear HO_3; clear HO_6; clear HB; have HO_3 := n0_; have HO_6 := n1_; have HO41028 := n2_; have HB := n3_; clear n0_ n1_ n2_ n3_; (try clear hb); (try clear hb2); (try clear hk); (try clear hi); (try clear ho0); obtain ⟨Ao49, co49, eo49⟩ := Kd.R_slice HO41028.out; subst eo49) | ((with_reducible refine gate_callee (f := 36) rfl ?_); refine goesL_ (some 73) rfl rfl Try.func36 (by kernel_rfl) rfl #[.slice Ao49 t41026.length co49] rfl (by (try simp only [List.map_toArray, List.map_cons, List.map_nil]); first | done | rfl | (simp only [List.length_drop, List.length_take]; rfl)) ?_; (with_reducible refine (impl_InterlacePolynomial.calls kj24 _ _ t41026 t41029 t41030 _ ?side1 ?side2 A44.out).mono ?_); (case side1 => repeat (first | exact (Kd.R_reads' HO41028.out).2.2 | (with_reducible refine Kd.C_alloc ?_ _) | (with_reducible refine Kd.C_drewN ?_ _) | (with_reducible refine Kd.C_drew ?_))); (case side2 => exact (Kd.R_reads' HO41028.out).2.1); rintro e w50 ⟨v41031, rfl, ho0, hb⟩; refine ⟨_, rfl, ?_⟩; have n0_ := Aside0.mk (Kd.R_elder' (by (with_reducible repeat (first | apply Kd.R_alloc | apply Kd.R_drewN | apply Kd.R_drew)); exact HO_3.out) (Kd.R_base ho0) hb); have n1_ := Aside0.mk (Kd.R_elder' (by (with_reducible repeat (first | apply Kd.R_alloc | apply Kd.R_drewN | apply Kd.R_drew)); exact HO_6.out) (Kd.R_base ho0) hb); have n2_ := Aside0.mk (Kd.R_elder' (by (with_reducible repeat (first | apply Kd.R_alloc | apply Kd.R_drewN | apply Kd.R_drew)); exact HO41028.out) (Kd.R_base ho0) hb); have n3_ := Aside0.mk (Kd.R_lower (Kd.R_new' (Kd.R_new' (Kd.R_new' ho0 (Kd.R_lt (by (with_reducible repeat (first | apply Kd.R_alloc | apply Kd.R_drewN | apply Kd.R_drew)); exact HO_3.out))) (Kd.R_lt (by (with_reducible repeat (first | apply Kd.R_alloc | apply Kd.R_drewN | apply Kd.R_drew)); exact HO_6.out))) (Kd.R_lt (by (with_reducible repeat (first | apply Kd.R_alloc | apply Kd.R_drewN | apply Kd.R_drew)); exact HO41028.out))) (below_size (by repeat (first | (with_reducible first | exact HB.out | apply below_alloc | apply pw_below_drewN | apply below_drew1) | exact HB.out)))); have n4_ := Aside0.mk (below_step (by repeat (first | (with_reducible first | exact HB.out | apply below_alloc | apply pw_below_drewN | apply below_drew1) | exact HB.out)) hb); clear HO_3; clear HO_6; clear HO41028; clear HB; have HO_3 := n0_; have HO_6 := n1_; have HO41028 := n2_; have HO41032 := n3_; have HB := n4_; clear n0_ n1_ n2_ n3_ n4_; (try clear hb); (try clear hb2); (try clear hk); (try clear hi); (try clear ho0)))
     (try simp only [Act.put, List.setIfInBounds_toArray, List.set_cons_zero, List.set_cons_succ])
     go_cut [84] (fun v84 wc => ∃ (kq : Nat) (x84_44 : Bool), v84 = .bool x84_44 ∧ Aside0 (laws_FnExactInterlacePolynomial.j2 kq t41024 t41023 x84_44 = some r) ∧ Aside0 (kq ≤ kj24) ∧ Aside0 (Kd.R (Kd.int .i64) 2 wc w.heap.size (fun _ => True) (.slice Ao46 t41011.length co46) t41024) ∧ Aside0 (Below w.heap.size w wc))
     case first =>
      have H := HC45.out
      clear HC45
      replace H := Option.bind_eq_some_iff.mp H
      obtain ⟨t41033, A510, H⟩ := H
      replace H : (if t41033 = true then (laws_FnExactInterlacePolynomial.j2 kj24 t41024 t41023 (t41030 != t41005)) else (laws_FnExactInterlacePolynomial.j2 kj24 t41024 t41023 true)) = some r := H
      have A51 := Aside0.mk A510
      clear A510
      by_cases c52 : t41033 = true
      ·subst c52
       have H1 : (laws_FnExactInterlacePolynomial.j2 kj24 t41024 t41023 (t41030 != t41005)) = some r := by rw [if_pos rfl] at H; exact H
       clear H
       have H := H1
       clear H1
       have H' := Aside0.mk H
       clear H
       obtain ⟨Ao53, co53, eo53⟩ := Kd.R_slice HO41032.out
       subst eo53
       obtain ⟨Ao54, co54, eo54⟩ := Kd.R_slice HO_3.out
       subst eo54
       go_wp2_with (first | ((with_reducible refine gate_callee (f := 37) rfl ?_); refine goesL_ (some 78) rfl rfl Try.func37 (by kernel_rfl) rfl #[.slice Ao53 t41029.length co53, .slice Ao54 t41004.length co54] rfl (by (try simp only [List.map_toArray, List.map_cons, List.map_nil]); first | done | rfl | (simp only [List.length_drop, List.length_take]; rfl)) ?_; (with_reducible refine (laws_eqInt64S.calls kj24 _ _ t41029 _ _ t41004 true _ ?side1 ?side2 ?side3 ?side4 A51.out).mono ?_); (case side1 => repeat (first | exact (Kd.R_reads' HO41032.out).2.2 | (with_reducible refine Kd.C_alloc ?_ _) | (with_reducible refine Kd.C_drewN ?_ _) | (with_reducible refine Kd.C_drew ?_))); (case side2 => exact (Kd.R_reads' HO41032.out).2.1); (case side3 => repeat (first | exact (Kd.R_reads' HO_3.out).2.2 | (with_reducible refine Kd.C_alloc ?_ _) | (with_reducible refine Kd.C_drewN ?_ _) | (with_reducible refine Kd.C_drew ?_))); (case side4 => exact (Kd.R_reads' HO_3.out).2.1); rintro e w' ⟨rfl, ⟨nd, rfl⟩⟩; refine ⟨_, rfl, ?_⟩))
       go_meet
       case rel => exact ⟨_, ((t41030 != t41005)), (by first | rfl | (simp; done) | (simp [*]; done)), H', ⟨by have := HJ6.out; have := HJ24.out; first | omega | exact Nat.le_refl _⟩, ⟨by (with_reducible repeat (first | apply Kd.R_alloc | apply Kd.R_drewN | apply Kd.R_drew)); exact Kd.R_mono HO_6.out (fun _ hk => trivial)⟩, ⟨by repeat (first | (with_reducible first | exact HB.out | apply below_alloc | apply pw_below_drewN | apply below_drew1) | exact HB.out)⟩⟩
      replace c52 := Bool.eq_false_iff.mpr c52
      subst c52
      have H1 : (laws_FnExactInterlacePolynomial.j2 kj24 t41024 t41023 true) = some r := by rw [if_neg (show ¬ (false = true) by decide)] at H; exact H
      clear H
      have H := H1
      clear H1
      have H' := Aside0.mk H
      clear H
      obtain ⟨Ao55, co55, eo55⟩ := Kd.R_slice HO41032.out
      subst eo55
      obtain ⟨Ao56, co56, eo56⟩ := Kd.R_slice HO_3.out
      subst eo56
      go_wp2_with (first | ((with_reducible refine gate_callee (f := 37) rfl ?_); refine goesL_ (some 78) rfl rfl Try.func37 (by kernel_rfl) rfl #[.slice Ao55 t41029.length co55, .slice Ao56 t41004.length co56] rfl (by (try simp only [List.map_toArray, List.map_cons, List.map_nil]); first | done | rfl | (simp only [List.length_drop, List.length_take]; rfl)) ?_; (with_reducible refine (laws_eqInt64S.calls kj24 _ _ t41029 _ _ t41004 false _ ?side1 ?side2 ?side3 ?side4 A51.out).mono ?_); (case side1 => repeat (first | exact (Kd.R_reads' HO41032.out).2.2 | (with_reducible refine Kd.C_alloc ?_ _) | (with_reducible refine Kd.C_drewN ?_ _) | (with_reducible refine Kd.C_drew ?_))); (case side2 => exact (Kd.R_reads' HO41032.out).2.1); (case side3 => repeat (first | exact (Kd.R_reads' HO_3.out).2.2 | (with_reducible refine Kd.C_alloc ?_ _) | (with_reducible refine Kd.C_drewN ?_ _) | (with_reducible refine Kd.C_drew ?_))); (case side4 => exact (Kd.R_reads' HO_3.out).2.1); rintro e w' ⟨rfl, ⟨nd, rfl⟩⟩; refine ⟨_, rfl, ?_⟩))
      go_meet
      case rel => exact ⟨_, (true), (by first | rfl | (simp; done) | (simp [*]; done)), H', ⟨by have := HJ6.out; have := HJ24.out; first | omega | exact Nat.le_refl _⟩, ⟨by (with_reducible repeat (first | apply Kd.R_alloc | apply Kd.R_drewN | apply Kd.R_drew)); exact Kd.R_mono HO_6.out (fun _ hk => trivial)⟩, ⟨by repeat (first | (with_reducible first | exact HB.out | apply below_alloc | apply pw_below_drewN | apply below_drew1) | exact HB.out)⟩⟩
     case rest =>
      clear HC45
      try clear c1
      try clear c2
      try clear c2b0
      try clear c2b1
      try clear p2
      try clear c3
      try clear c4
      try clear c5
      try clear c15
      try clear c20
      try clear c23
      try clear c29
      try clear c29b0
      try clear c31
      try clear c34
      try clear c35
      try clear c36
      try clear c37
      try clear c38
      try clear c39
      try clear c39b0
      try clear c42
      try clear c42b0
      try clear c42b1
      try clear c52
      try clear p2
      obtain ⟨kq, x84_44, rfl, HA, HJ44, HO_6, HB⟩ := hcut
      have hl6_44 := (Kd.R_reads' HO_6.out).1
      rw [hl6_44] at HO_6
      (try simp only [hl6_44])
      cases kq with
      | zero => exact absurd HA.out (by simp [laws_FnExactInterlacePolynomial.j2])
      | succ kj44 =>
       have H := HA.out
       clear HA
       simp only [laws_FnExactInterlacePolynomial.j2] at H
       by_cases c57 : x84_44 = true
       ·subst c57
        have H1 : (some false) = some r := by rw [if_pos rfl] at H; exact H
        clear H
        have H := H1
        clear H1
        obtain rfl := Option.some.inj H
        go_wp2
        go_ret
        exact ⟨by first | rfl | (simp [errW_none, errW_some] <;> rfl) | (simp [*, errW_none, errW_some] <;> rfl), by repeat (first | (with_reducible first | exact HB.out | apply below_alloc | apply pw_below_drewN | apply below_drew1) | exact HB.out)⟩
       replace c57 := Bool.eq_false_iff.mpr c57
       subst c57
       have H1 : ((laws_heldInt64S.f kj44 t41024 1).bind fun t41034 => (if t41034 < 0 then (some false) else (if t41034 = t41023 then (some true) else (some false)))) = some r := by rw [if_neg (show ¬ (false = true) by decide)] at H; exact H
       clear H
       have H := H1
       clear H1
       replace H := Option.bind_eq_some_iff.mp H
       obtain ⟨t41034, A580, H⟩ := H
       replace H : (if t41034 < 0 then (some false) else (if t41034 = t41023 then (some true) else (some false))) = some r := H
       have A58 := Aside0.mk A580
       clear A580
       by_cases c59 : t41034 < 0
       ·rw [if_pos c59] at H
        have c59b0 : decide (t41034 < 0) = true := decide_eq_true c59
        clear c59
        obtain rfl := Option.some.inj H
        go_wp2_with (first | ((with_reducible refine gate_callee (f := 39) rfl ?_); refine goesL_ (some 87) rfl rfl Try.func39 (by kernel_rfl) rfl #[.slice Ao46 t41024.length co46, .int .i64 1] rfl (by (try simp only [List.map_toArray, List.map_cons, List.map_nil]); first | done | rfl | (simp only [List.length_drop, List.length_take]; rfl)) ?_; (with_reducible refine (laws_heldInt64S.calls kj44 _ _ t41024 1 t41034 _ ?side1 ?side2 A58.out).mono ?_); (case side1 => repeat (first | exact (Kd.R_reads' HO_6.out).2.2 | (with_reducible refine Kd.C_alloc ?_ _) | (with_reducible refine Kd.C_drewN ?_ _) | (with_reducible refine Kd.C_drew ?_))); (case side2 => exact (Kd.R_reads' HO_6.out).2.1); rintro e w' ⟨rfl, ⟨nd, rfl⟩⟩; refine ⟨_, rfl, ?_⟩))
        go_ret
        exact ⟨by first | rfl | (simp [errW_none, errW_some] <;> rfl) | (simp [*, errW_none, errW_some] <;> rfl), by repeat (first | (with_reducible first | exact HB.out | apply below_alloc | apply pw_below_drewN | apply below_drew1) | exact HB.out)⟩
       rw [if_neg c59] at H
       have c59b0 : decide (t41034 < 0) = false := decide_eq_false c59
       clear c59
       by_cases c60 : t41034 = t41023
       rotate_left
       ·rw [if_neg c60] at H
        have c60b0 : (t41034 == t41023) = false := beq_eq_false_iff_ne.mpr c60
        have c60b1 : (t41034 != t41023) = true := bne_iff_ne.mpr c60
        obtain rfl := Option.some.inj H
        go_wp2_with (first | ((with_reducible refine gate_callee (f := 39) rfl ?_); refine goesL_ (some 87) rfl rfl Try.func39 (by kernel_rfl) rfl #[.slice Ao46 t41024.length co46, .int .i64 1] rfl (by (try simp only [List.map_toArray, List.map_cons, List.map_nil]); first | done | rfl | (simp only [List.length_drop, List.length_take]; rfl)) ?_; (with_reducible refine (laws_heldInt64S.calls kj44 _ _ t41024 1 t41034 _ ?side1 ?side2 A58.out).mono ?_); (case side1 => repeat (first | exact (Kd.R_reads' HO_6.out).2.2 | (with_reducible refine Kd.C_alloc ?_ _) | (with_reducible refine Kd.C_drewN ?_ _) | (with_reducible refine Kd.C_drew ?_))); (case side2 => exact (Kd.R_reads' HO_6.out).2.1); rintro e w' ⟨rfl, ⟨nd, rfl⟩⟩; refine ⟨_, rfl, ?_⟩))
        go_ret
        exact ⟨by first | rfl | (simp [errW_none, errW_some] <;> rfl) | (simp [*, errW_none, errW_some] <;> rfl), by repeat (first | (with_reducible first | exact HB.out | apply below_alloc | apply pw_below_drewN | apply below_drew1) | exact HB.out)⟩
       rw [if_pos c60] at H
       have c60b0 : (t41034 == t41023) = true := beq_iff_eq.mpr c60
       have c60b1 : (t41034 != t41023) = false := bne_eq_false_iff_eq.mpr c60
       clear c60
       obtain rfl := Option.some.inj H
       go_wp2_with (first | ((with_reducible refine gate_callee (f := 39) rfl ?_); refine goesL_ (some 87) rfl rfl Try.func39 (by kernel_rfl) rfl #[.slice Ao46 t41024.length co46, .int .i64 1] rfl (by (try simp only [List.map_toArray, List.map_cons, List.map_nil]); first | done | rfl | (simp only [List.length_drop, List.length_take]; rfl)) ?_; (with_reducible refine (laws_heldInt64S.calls kj44 _ _ t41024 1 t41034 _ ?side1 ?side2 A58.out).mono ?_); (case side1 => repeat (first | exact (Kd.R_reads' HO_6.out).2.2 | (with_reducible refine Kd.C_alloc ?_ _) | (with_reducible refine Kd.C_drewN ?_ _) | (with_reducible refine Kd.C_drew ?_))); (case side2 => exact (Kd.R_reads' HO_6.out).2.1); rintro e w' ⟨rfl, ⟨nd, rfl⟩⟩; refine ⟨_, rfl, ?_⟩))
       go_ret
       exact ⟨by first | rfl | (simp [errW_none, errW_some] <;> rfl) | (simp [*, errW_none, errW_some] <;> rfl), by repeat (first | (with_reducible first | exact HB.out | apply below_alloc | apply pw_below_drewN | apply below_drew1) | exact HB.out)⟩
def laws_FnExactInterlacePolynomial.Pure : Prop := ∀ (l0 : List Int), l0.length ≤ maxLen → l0.length * 8 ≤ 140737488351232 → (∀ x ∈ l0, (Lit.int .i64 x).wf = true) → ∃ k, laws_FnExactInterlacePolynomial.f k l0 = some true
theorem laws_FnExactInterlacePolynomial.walk (P : laws_FnExactInterlacePolynomial.Pure) (a0 : Option Addr) (len0 cap0 : Nat) (z0 : List Int) (w : World) (w0 : (a0 = none ∧ len0 = 0 ∧ cap0 = 0 ∧ z0 = []) ∨ ∃ x, a0 = some x ∧ len0 ≤ cap0 ∧ cap0 ≤ maxLen ∧ z0.length = cap0 ∧ (∀ i, i < z0.length → w.cell? (x.add i) = some (.int .i64 (z0.getD i 0))) ∧ ∀ n ∈ z0, (Lit.int .i64 n).wf = true) (y0 : len0 * 8 ≤ 140737488351232) :
  Calls Try.prog 4 #[.slice a0 len0 cap0] w fun e w' => e = .returned (.bool true) ∧ Below w.heap.size w w' := by
 obtain ⟨l0, rfl, hr0, hm0, hw0, hc0⟩ := ReadsInt.ofRowC w0
 obtain ⟨k, h⟩ := P l0 hm0 y0 hw0
 refine (laws_FnExactInterlacePolynomial.calls k _ _ l0 true w (Kd.C_of_reads (d := (0 : Int)) (h1 := fun _ => rfl) hr0) hc0 h).mono ?_
 rintro e w' ⟨rfl, hd⟩
 exact ⟨rfl, hd⟩
end Go.Proofs.Ytcnekpdoldljgaa.F
end
section
namespace Go.Proofs.Ytcnekpdoldljgaa.F
open Go.RowKit Go.Proofs.YtcnekpdoldljgaaW.PrintWords Go.Proofs.YtcnekpdoldljgaaW.PrintLast Go.Proofs.YtcnekpdoldljgaaW.PrintMore
attribute [local go_sem] max2_int min2_int max_two min_two max_three min_three max_four min_four   
set_option linter.unusedVariables false
set_option linter.unusedSimpArgs false
end Go.Proofs.Ytcnekpdoldljgaa.F
end
section
namespace Go.Proofs.Ytcnekpdoldljgaa.F
open Go.RowKit Go.Proofs.YtcnekpdoldljgaaW.PrintWords Go.Proofs.YtcnekpdoldljgaaW.PrintLast Go.Proofs.YtcnekpdoldljgaaW.PrintMore
attribute [local go_sem] max2_int min2_int max_two min_two max_three min_three max_four min_four   
set_option linter.unusedVariables false
set_option linter.unusedSimpArgs false
end Go.Proofs.Ytcnekpdoldljgaa.F
end
section
namespace Go.Proofs.Ytcnekpdoldljgaa.F
open Go.RowKit Go.Proofs.YtcnekpdoldljgaaW.PrintWords Go.Proofs.YtcnekpdoldljgaaW.PrintLast Go.Proofs.YtcnekpdoldljgaaW.PrintMore
attribute [local go_sem] max2_int min2_int max_two min_two max_three min_three max_four min_four   
set_option linter.unusedVariables false
set_option linter.unusedSimpArgs false
open Go.Proofs.Ytcnekpdoldljgaa.Mem Go.Shelf
attribute [local go_sem] Oper.semAt_some
end Go.Proofs.Ytcnekpdoldljgaa.F
end
section
namespace Go.Proofs.Ytcnekpdoldljgaa.F
open Go.RowKit Go.Proofs.YtcnekpdoldljgaaW.PrintWords Go.Proofs.YtcnekpdoldljgaaW.PrintLast Go.Proofs.YtcnekpdoldljgaaW.PrintMore
attribute [local go_sem] max2_int min2_int max_two min_two max_three min_three max_four min_four   
set_option linter.unusedVariables false
set_option linter.unusedSimpArgs false
end Go.Proofs.Ytcnekpdoldljgaa.F
end
section
namespace Go.Proofs.Ytcnekpdoldljgaa.Chrom
def sumR (f : Nat → Int) : Nat → Int
  | 0 => 0
  | n + 1 => sumR f n + f n
def at_ (c : List Nat) (v : Nat) : Nat := c.getD v 0
def okc (X : Nat → Nat → Bool) (c : List Nat) (x : Nat) : Bool := (List.range c.length).all fun v => !(X c.length v) || !(at_ c v == x)
def ext (X : Nat → Nat → Bool) (k : Nat) : Nat → List Nat → Int
  | 0, _ => 1
  | d + 1, c => sumR (fun x => if okc X c x = true then ext X k d (c ++ [x]) else 0) k
def Good (X : Nat → Nat → Bool) (m : Nat) (c : List Nat) : Prop := ∀ i, i < m → ∀ v, v < i → X i v = true → at_ c i ≠ at_ c v
def fall (k : Int) : Nat → Int
  | 0 => 1
  | j + 1 => fall k j * (k - j)
def ev (k : Int) (out : List Int) : Int := sumR (fun j => out.getD j 0 * fall k j) out.length
end Go.Proofs.Ytcnekpdoldljgaa.Chrom
end
section
namespace Go.Proofs.Ytcnekpdoldljgaa.Pure
open Go.RowKit Go.Proofs.Ytcnekpdoldljgaa.F Go.Proofs.Ytcnekpdoldljgaa.Mem Go.Proofs.YtcnekpdoldljgaaW.PrintWords Go.Proofs.YtcnekpdoldljgaaW.PrintLast
set_option linter.unusedVariables false
set_option linter.unusedSimpArgs false
def intV (w : List Int) : List Int × Int := if isW w = true then (interlaceV w, 0) else ([], 1)
theorem interlaceV_le (w : List Int) (h : isW w = true) : (interlaceV w).length ≤ 1048576 := by
  have := ((isW_iff w).1 h).le
  unfold interlaceV; rw [polyTo_len]; omega
theorem implInt_ev (w : List Int) (hwf : ∀ x ∈ w, (Lit.int .i64 x).wf = true) : Ev (fun k => impl_InterlacePolynomial.f k w) (intV w) := by
  unfold impl_InterlacePolynomial.f intV
  refine Ev.bind (isWord_ev w hwf) ?_
  by_cases h : isW w = true
  · refine Ev.congr (fun k => if_pos h) ?_
    rw [if_pos h]
    rw [show impl_interlace.f w = some (interlaceV w) from by unfold impl_interlace.f; rw [if_pos h]]
    exact Ev.now _
  · refine Ev.congr (fun k => if_neg h) ?_
    rw [if_neg h]
    exact Ev.now _
theorem intV_len (w : List Int) : (intV w).1.length ≤ 1048576 := by
  unfold intV
  by_cases h : isW w = true
  · rw [if_pos h]; exact interlaceV_le w h
  · rw [if_neg h]; simp
theorem specInterlace_f (w : List Int) (h : isW w = true) : spec_l10Interlace.f w = some (interlaceV w) := by unfold spec_l10Interlace.f; rw [if_pos h]
theorem specInt_ev (w : List Int) : Ev (fun k => spec_InterlacePolynomial.f k w) (intV w) := by
  unfold spec_InterlacePolynomial.f intV
  refine Ev.bind (code10_ev w [] (by simp)) ?_
  by_cases h : isW w = true
  · rw [if_pos h, if_pos h, if_pos (by simp)]
    refine Ev.congr (f := fun _ => some (interlaceV w, 0)) (fun k => ?_) (Ev.now _)
    (try rw [if_pos rfl]); rw [specInterlace_f w h]
    rfl
  · rw [if_neg h, if_neg h]
    exact Ev.congr (f := fun _ => some ([], 1)) (fun k => by rw [if_neg (by decide)]) (Ev.now _)
end Go.Proofs.Ytcnekpdoldljgaa.Pure
end
section
namespace Go.Proofs.Ytcnekpdoldljgaa.Pure
open Go.RowKit Go.Proofs.Ytcnekpdoldljgaa.F Go.Proofs.YtcnekpdoldljgaaW.PrintWords Go.Proofs.YtcnekpdoldljgaaW.PrintLast
theorem FnExactInterlacePolynomial : laws_FnExactInterlacePolynomial.Pure := by
  intro l hm hl hw 
  refine Ev.rounds ?_
  unfold laws_FnExactInterlacePolynomial.f
  by_cases hb : (l.length : Int) > 1048576
  · exact Ev.congr (fun _ => if_pos hb) (Ev.now _)
  refine Ev.congr (fun _ => if_neg hb) ?_
  have hS := specInt_ev l
  have hI := implInt_ev l hw
  have hL : (intV l).1.length ≤ 1048576 := intV_len l
  generalize intV l = v at *
  obtain ⟨v, c⟩ := v
  refine Ev.bind (toS_ev l (by omega)) ?_
  refine Ev.bind hS ?_
  refine Ev.bind (toS_ev l (by omega)) ?_
  refine Ev.bind hI ?_
  have hL' : v.length ≤ 1048576 := hL
  refine Ev.bind (eqS_ev v v (by omega)) ?_
  refine Ev.congr (fun k => if_pos (decide_eq_true rfl)) ?_
  refine Ev_succ ?_
  simp only [laws_FnExactInterlacePolynomial.j0, bne_self_eq_false, Bool.false_eq_true, if_false]
  refine Ev.bind (toS_ev l (by omega)) ?_
  refine Ev.bind (eqS_ev l l (by omega)) ?_
  refine Ev.congr (fun k => if_pos (decide_eq_true rfl)) ?_
  refine Ev.bind (mark_ev l (by omega)) ?_
  refine Ev.congr (fun k => if_neg (by show ¬ (((1 + l.length : Nat) : Int) < 0); omega)) ?_
  refine Ev.bind (eqS_ev v v (by omega)) ?_
  refine Ev.congr (fun k => if_pos (decide_eq_true rfl)) ?_
  refine Ev_succ ?_
  simp only [laws_FnExactInterlacePolynomial.j1, Bool.false_eq_true, if_false]
  refine Ev.bind (mark_ev v (by omega)) ?_
  refine Ev.bind (held_ev v.length (by omega)) ?_
  refine Ev.congr (fun k => if_neg (by omega)) ?_
  refine Ev.congr (fun k => if_pos rfl) ?_
  refine Ev.bind (toS_ev l (by omega)) ?_
  refine Ev.bind hI ?_
  refine Ev.bind (eqS_ev v v (by omega)) ?_
  refine Ev.congr (fun k => if_pos (decide_eq_true rfl)) ?_
  refine Ev_succ ?_
  simp only [laws_FnExactInterlacePolynomial.j2, bne_self_eq_false, Bool.false_eq_true, if_false]
  refine Ev.bind (held_ev v.length (by omega)) ?_
  refine Ev.congr (fun k => if_neg (by omega)) ?_
  exact Ev.congr (fun k => if_pos rfl) (Ev.now _)
end Go.Proofs.Ytcnekpdoldljgaa.Pure
end
