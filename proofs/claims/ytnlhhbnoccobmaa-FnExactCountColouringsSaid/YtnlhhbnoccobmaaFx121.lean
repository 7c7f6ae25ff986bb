/- What impl_valueAt answers, and that the Go text comes to it: for every world in which the arguments read as told. -/
import Derived.Test.YtnlhhbnoccobmaaFgA
import Derived.Test.YtnlhhbnoccobmaaPureMem
import Derived.RangeFuncBox
import Derived.RangeFuncLeaves
import Derived.RangeFuncNested
import Derived.RangeFuncBound
import Derived.RangeFuncCalls
import Derived.Shelf.Abstract
import Derived.Shelf.RegionOpen
import Derived.WalkKit
import Derived.OwnWalkIn
import Derived.TacticsInMore
import Derived.LoopNIn
import Derived.LoopIn
namespace Go.Proofs.Ytnlhhbnoccobmaa.F
open Go.RowKit Go.Proofs.YtnlhhbnoccobmaaW.PrintWords Go.Proofs.YtnlhhbnoccobmaaW.PrintLast Go.Proofs.YtnlhhbnoccobmaaW.PrintMore
attribute [local go_sem] max2_int min2_int max_two min_two max_three min_three max_four min_four   -- for this text's walks alone
set_option linter.unusedVariables false
set_option linter.unusedSimpArgs false

/-! ### impl_valueAt: function 121 (by hand) -/
open Go.Proofs.Ytnlhhbnoccobmaa.Mem Go.Shelf
attribute [local go_sem] Oper.semAt_some
def backTo (zs : List Int) : Nat → List (Nat × Int)
  | 0 => []
  | d + 1 => backTo zs d ++ [(zs.length - 1 - d, zs.getD (zs.length - 1 - d) 0)]
theorem backTo_len (zs : List Int) : ∀ d, (backTo zs d).length = d
  | 0 => rfl
  | d + 1 => by rw [backTo, List.length_append, backTo_len zs d]; rfl
def valS (x : Int) (pre : List (Nat × Int)) : Int := pre.foldl (fun s p => wrap64 (wrap64 (s * x) + p.2)) 0
theorem valS_snoc (x : Int) (pre : List (Nat × Int)) (p : Nat × Int) : valS x (pre ++ [p]) = wrap64 (wrap64 (valS x pre * x) + p.2) := by simp [valS]
/-- What a round keeps: all that lay below n₀, and the block that holds the slice. -/
def Kept_ (n₀ Bs : Nat) (W W' : World) : Prop := Below n₀ W W' ∧ W'.heap[Bs]? = W.heap[Bs]?
theorem keptB {n₀ Bs : Nat} {w : World} (hn : n₀ ≤ w.heap.size) (hB : Bs < w.heap.size) (W : World) (l : Nat) (o o' : Obj) (hl : w.heap.size ≤ l) (h : W.heap[l]? = some o) (h1 : o.isCells = false) (h2 : o.isWalk = false) : Kept_ n₀ Bs W (W.putObj l o') :=
  ⟨belowK_b hn W l o o' hl h h1 h2, World.putObj_heap_other (by omega)⟩
set_option maxRecDepth 100000 in
set_option maxHeartbeats 4000000 in
theorem back1_in (F : Fence) (n : Nat) (hF : F.fn 222) (hro : F.round = none) (hn : 1 ≤ n) (l Bs : Nat) (w : World) (A : Option Addr) (len cap : Nat) (zs : List Int) (hlen : len = zs.length) (hreach : len ≤ 17592186044416) (hC : Kd.C (Kd.int .i64) w A len zs) (J Jx : List (Nat × Int) → World → Prop)
    (hY : ∀ pre x W, J pre W → pre.length < len → YieldAt F (n - 1) Try.prog l #[.int .i64 ((x.1 : Nat) : Int), .int .i64 x.2] W fun e W' =>
      (e = .returned (.bool true) ∧ J (pre ++ [x]) W' ∧ Kept_ w.heap.size Bs W W') ∨ (e = .returned (.bool false) ∧ Jx (pre ++ [x]) W'))
    (W : World) (hW : Below w.heap.size w W) (hBs : Boxed W Bs 22 (.slice A len cap)) (h0 : J [] W) :
    CallsIn F n Try.prog 222 #[.func (.yield l) #[] #[], .pointer (some ⟨Bs, 0, none⟩)] W fun e W' => (∃ v, e = .returned v) ∧
      ((∃ ys, ys = backTo zs len ∧ J ys W') ∨ (∃ pre, True ∧ Jx pre W')) := by
  have HC := Aside0.mk hC
  have HLEN := Aside0.mk hlen
  have hb := hBs.cell
  have HBX := Aside0.mk hBs
  have HW := Aside0.mk hW
  have HY := Aside0.mk hY
  have e0 : wrap64 ((len : Int) - 1) = (len : Int) - 1 := by unfold wrap64; omega
  clear hC hlen hBs hW hY
  refine callsIn_of_wp Try.func222 rfl hF ?_ hro
  simp only [Try.ntmps222, List.size_toArray, List.length_cons, List.length_nil, Nat.reduceAdd, Nat.reduceSub, Array.replicate_succ, Array.replicate_zero, List.push_toArray, List.append_toArray, List.nil_append, List.cons_append]
  gi_wp2
  gi_loopw [3] (fun i wr => ∃ d k : Nat, d + k = len ∧ i = .int .i64 ((k : Int) - 1) ∧ J (backTo zs d) wr ∧ Aside0 (Kept_ w.heap.size Bs W wr))
    (fun i _ => (intOf i + 1).toNat)
  case atStart => exact ⟨0, len, by omega, by simp [e0], h0, ⟨⟨Below.refl _ _, rfl⟩⟩⟩
  case round =>
    obtain ⟨d, k, hk, rfl, hJs, HK⟩ := hrel
    have hb2 : wr.cell? ⟨Bs, 0, none⟩ = some (.slice A len cap) := (show Boxed wr Bs _ _ from HK.out.2.trans HBX.out).cell
    cases k with
    | zero =>
      have e : (((0 : Nat) : Int) - 1) = -1 := rfl
      rw [e]
      obtain rfl : d = len := by omega
      gi_wp2
      go_end0
      exact ⟨⟨_, rfl⟩, .inl ⟨_, rfl, hJs⟩⟩
    | succ k' =>
      have e : (((k' + 1 : Nat) : Int) - 1) = (k' : Int) := by omega
      rw [e]
      obtain ⟨ad, rfl, hc⟩ := cell_of_C (Kd.C_below HC.out (HW.out.trans HK.out.1)) k' (by omega)
      have e1 : wrap64 ((k' : Int) - 1) = (k' : Int) - 1 := by unfold wrap64; omega
      have hcm : backTo zs (d + 1) = backTo zs d ++ [(k', zs[k']?.getD 0)] := by
        rw [backTo, show zs.length - 1 - d = k' from by have := HLEN.out; omega, List.getD_eq_getElem?_getD]
      have HCM := Aside0.mk hcm
      clear hcm
      obtain ⟨fn, tmps, assign, body, hy, hR⟩ := HY.out _ (k', zs[k']?.getD 0) wr hJs (by rw [backTo_len]; omega)
      dsimp only at hy
      gi_wp2
      refine hR.mono ?_
      rintro e W3 (⟨rfl, hJ3, hk3⟩ | ⟨rfl, hJx3⟩)
      · gi_wp2
        go_roundw
        case rel => exact ⟨d + 1, k', by omega, (by first | rfl | simp [e1]), by rw [HCM.out]; exact hJ3, ⟨⟨HK.out.1.trans hk3.1, hk3.2.trans HK.out.2⟩⟩⟩
        case measure => simp [intOf]
      · gi_wp2
        refine bodyPost_ret (results_none rfl _ _ _) rfl ?_
        exact ⟨⟨_, rfl⟩, .inr ⟨_, trivial, hJx3⟩⟩
set_option maxHeartbeats 2000000 in
theorem back_in (F : Fence) (n : Nat) (hF : F.fn 181) (hro : F.round = none) (a : Option Addr) (len cap : Nat) (w : World) :
    CallsIn F n Try.prog 181 #[.slice a len cap] w fun e w' => e = .returned (.func (.func 222) #[] #[.pointer (some ⟨w.heap.size, 0, none⟩)]) ∧ w' = w.alloc (.cells #[.slice a len cap] 22) := by
  refine callsIn_of_wp Try.func181 rfl hF ?_ hro
  simp only [Try.ntmps181, List.size_toArray, List.length_cons, List.length_nil, Nat.reduceAdd, Nat.reduceSub, Array.replicate_succ, Array.replicate_zero, List.push_toArray, List.append_toArray, List.nil_append, List.cons_append]
  gi_wp2
  go_ret
  exact ⟨rfl, rfl⟩
def impl_valueAt.f (l0 : List Int) (a1 : Int) : Option Int := if l0.length ≤ 17592186044416 then some (valS a1 (backTo l0 l0.length)) else none
set_option maxHeartbeats 4000000 in
set_option maxRecDepth 100000 in
theorem impl_valueAt.calls (A0 : Option Addr) (c0 : Nat) (l0 : List Int) (a1 : Int) (r : Int) (w : World) (hr0 : Kd.C (Kd.int .i64) w A0 l0.length l0) (hc0 : l0.length ≤ c0) (h : impl_valueAt.f l0 a1 = some r) :
    Calls Try.prog 121 #[.slice A0 l0.length c0, .int .i64 a1] w fun e w' => e = .returned (.int .i64 r) ∧ Below w.heap.size w w' := by
  unfold impl_valueAt.f at h
  by_cases hk : l0.length ≤ 17592186044416
  · rw [if_pos hk] at h
    have hr : r = valS a1 (backTo l0 l0.length) := (Option.some.inj h).symm
    subst hr
    refine (callsIn_wide (n := 3)).1 ?_
    refine callsIn_of_wp_marks Try.func121 rfl trivial ?_ rfl
    simp only [Try.ntmps121, List.size_toArray, List.length_cons, List.length_nil, Nat.reduceAdd, Nat.reduceSub, Array.replicate_succ, Array.replicate_zero, List.push_toArray, List.append_toArray, List.nil_append, List.cons_append]
    gi_wp2_with (first
      | (refine ⟨trivial, ?_⟩; gi_at_call 181; refine (back_in Fence.wide 2 trivial rfl _ _ _ _).mono ?_; rintro e w' ⟨rfl, rfl⟩)
      | (gi_at_call 181; refine (back_in Fence.wide 2 trivial rfl _ _ _ _).mono ?_; rintro e w' ⟨rfl, rfl⟩))
    have bX := ((Boxed.new w 2 (.int .i64 a1)).alloc (.cells #[.int .i64 0] 2)).alloc (.cells #[.slice A0 l0.length c0] 22)
    have bO := (Boxed.new (w.alloc (.cells #[.int .i64 a1] 2)) 2 (.int .i64 0)).alloc (.cells #[.slice A0 l0.length c0] 22)
    have bS := Boxed.new ((w.alloc (.cells #[.int .i64 a1] 2)).alloc (.cells #[.int .i64 0] 2)) 22 (.slice A0 l0.length c0)
    have hB0 : Below w.heap.size w (((w.alloc (.cells #[.int .i64 a1] 2)).alloc (.cells #[.int .i64 0] 2)).alloc (.cells #[.slice A0 l0.length c0] 22)) := below_alloc (below_alloc (below_alloc (Below.refl _ _) _) _) _
    rw [World.size_alloc] at bO bS
    rw [World.size_alloc] at bS
    have hsz : (((w.alloc (.cells #[.int .i64 a1] 2)).alloc (.cells #[.int .i64 0] 2)).alloc (.cells #[.slice A0 l0.length c0] 22)).heap.size = w.heap.size + 1 + 1 + 1 := by simp
    generalize hW1 : (((w.alloc (.cells #[.int .i64 a1] 2)).alloc (.cells #[.int .i64 0] 2)).alloc (.cells #[.slice A0 l0.length c0] 22)) = W1 at bX bO bS hB0 hsz ⊢
    have stops : SeqStopsK Fence.wide (3 - 1) Try.prog 222 #[.pointer (some ⟨w.heap.size + 1 + 1, 0, none⟩)] (fun x : Nat × Int => #[Value.int .i64 ((x.1 : Nat) : Int), Value.int .i64 x.2]) (Kept_ w.heap.size (w.heap.size + 1 + 1)) (fun ys => ys = backTo l0 l0.length) (fun _ => True) l0.length W1 := fun l J Jx W hW _ _ hY h0 =>
      back1_in Fence.wide 2 trivial rfl (by omega) l _ w A0 _ c0 l0 rfl hk hr0 J Jx hY W (hB0.trans (hW.mono (by omega))) ((hW.block _ bS.lt).trans bS) h0
    have ne_of : ∀ {A : World} {B : Nat} {t : TypeId} {v : Value} {row : Option Nat}, Boxed A B t v → (∀ r, row = some r → ∃ o : Obj, A.heap[r]? = some o ∧ o.isCells = false) → some B ≠ row := fun {A B t v row} hb hr e => by
      obtain ⟨o, ho, hc⟩ := hr _ e.symm
      rw [show A.heap[B]? = _ from hb] at ho
      cases ho; cases hc
    refine wpIn_rangeFunc_ownG rfl (by omega) (gf := 222) (lb := #[.pointer (some ⟨w.heap.size + 1 + 1, 0, none⟩)]) rfl trivial (enters_of Try.func222 (by kernel_rfl) rfl)
      stops (fun h k => ⟨h.1.trans k.1, k.2.trans h.2⟩) (keptB (by omega) bS.lt) (Below.refl _ _) (fun _ => rfl)
      (fun pre W => (Boxed W (w.heap.size + 1) 2 (.int .i64 (valS a1 pre)) ∧ Boxed W w.heap.size 2 (.int .i64 a1) ∧ Boxed W (w.heap.size + 1 + 1) 22 (.slice A0 l0.length c0)) ∧ Below w.heap.size w W)
      (fun _ _ _ => False)
      (OwnFrom.and (Own.from (fun s A B row hs hg hr => ⟨hs.1.kept hg (ne_of hs.1 hr), hs.2.1.kept hg (ne_of hs.2.1 hr), hs.2.2.kept hg (ne_of hs.2.2 hr)⟩) _) (ownFrom_below (Nat.le_refl _) (by omega)))
      (fun _ _ _ _ _ hs _ _ => hs)
      ⟨⟨bO, bX, bS⟩, hB0⟩
      (fun x => { tmps := #[.slice A0 l0.length c0, .int .i64 a1, undef, .pointer (some ⟨w.heap.size, 0, none⟩), .int .i64 0, .pointer (some ⟨w.heap.size + 1, 0, none⟩), undef, .int .i64 x.2, .slice A0 l0.length c0, .func (.func 222) #[] #[.pointer (some ⟨w.heap.size + 1 + 1, 0, none⟩)], .int .i64 ((x.1 : Nat) : Int), .int .i64 x.2, undef, undef, undef, undef, undef, undef], defers := [] }) ?assign ?body ?done ?stop
    case assign =>
      intro l x W K hK
      gi_wp2
      exact hK
    case body =>
      rintro l pre x W ⟨⟨hO, hX, hS⟩, hB⟩ _
      have hc := hO.cell
      have hf := hO.frozen
      have hcx := hX.cell
      have HO := Aside0.mk hO
      have HX := Aside0.mk hX
      have HS := Aside0.mk hS
      have HB := Aside0.mk hB
      clear hO hX hS hB
      gi_wp2
      have hg : W.grownBy (W.setCell ⟨w.heap.size + 1, 0, none⟩ (.int .i64 (wrap64 (wrap64 (valS a1 pre * a1) + x.2)))) (some (w.heap.size + 1)) := grown_set (grown_refl W _) 0 _
      exact ⟨(KeepsOthers.setCell _ _ _).from _, ⟨(Below.refl w.heap.size W).setCell (p := ⟨w.heap.size + 1, 0, none⟩) (Nat.le_succ _) _, hg.block _ HS.out.lt (by simp)⟩, ⟨by rw [valS_snoc]; exact HO.out.set _, HX.out.kept hg (by simp), HS.out.kept hg (by simp)⟩, HB.out.setCell (p := ⟨w.heap.size + 1, 0, none⟩) (Nat.le_succ _) _⟩
    case done =>
      rintro D ys W hD rfl ⟨⟨hO, _, _⟩, hB⟩ hK
      have hc := hO.cell
      have HB := Aside0.mk hB
      clear hO hB
      gi_wp2
      refine ⟨by simp, .inl ⟨_, _, rfl, run_takeDeferred hK, ?_⟩⟩
      exact ⟨_, results_tmp rfl _ _ _, rfl, HB.out.trans (belowK_b (w := w) (Nat.le_refl _) W D _ _ (by omega) hK rfl rfl)⟩
    case stop =>
      rintro D c pre W _ _ h _
      exact h.elim
  · rw [if_neg hk] at h; exact absurd h (by simp)

end Go.Proofs.Ytnlhhbnoccobmaa.F
